/- A part of the proof: lemmas that the law's row leans on. -/
import Derived.ProofKit
import Derived.WalkKit
import Derived.OpenShut
import Derived.Carry
import Derived.Deep.Grids
import Derived.Test.YtlbdpbbpoghncaaGreatProg
import Derived.Test.YtlbdpbbpoghncaaGreatPc
set_option linter.all false
namespace Wf
open Go Go.RowKit
section
variable {R:Type}
def zFu (P:Program) (s:St) (x:ResultVar) (k:V→Option R):Option R:=match x with
 | .tmp t=>k (s.slots.getD t (.d .undef))
 | .cell a t=>zD7 P s.L t (s.slots.getD a (.d .undef)) k
def zCp (P:Program) (s:St):List ResultVar→(List V→Option R)→Option R
 | [],k=>k []
 | x::r,k=>zFu P s x fun v=>zCp P s r fun vs=>k (v::vs)
def zCq (L:Loc):List Nat→List V→(List V→Loc→Option R)→Option R
 | [],[],k=>k [] L
 | sz::szs,v::vs,k=>if zHK sz v=true then zCq L szs vs fun xs L'=>k (v::xs) L' else toDK L v fun d w=>updK L w fun L1=>zCq L1 szs vs fun xs L'=>k (.d d::xs) L'
 | _,_,_=>none
def zGr (L:Loc) (sz:Nat) (v:V) (k:Option Nat×D→Option R):Option R:=match v with
 | .d x=>if 0 < sz then (match x with
  | .sl .full []=>k (none,.sl .own [])
  | .sl .nil []=>k (none,.sl .own [])
  | x=>sif (x.free=true) (k (none,x))) else sif (x.free=true) (k (none,x))
 | .p _ x=>sif (x.free=true) (k (none,x))
 | .ref g n off len=>match off,L.get g n with
  | 0,.arr sz' els true=>if sz'=sz∧(g < 90000∨n=0) then sif (len=els.length) (sif (els.all D.free=true) (k (some g,.sl .own els))) else none
  | _,_=>none
 | .map g n=>match L.get g n with
  | .map kk es=>if g < 90000 then sif (D.freeE es=true) (k (none,.mp .own kk es)) else none
  | _=>none
 | _=>none
def zCr (L:Loc):List Nat→List V→(List (Option Nat×D)→Option R)→Option R
 | [],[],k=>k []
 | sz::szs,v::vs,k=>zGr L sz v fun x=>zCr L szs vs fun xs=>k (x::xs)
 | _,_,_=>none
def zGs (P:Program) (ro:Nat→Bool) (res:List ResultVar) (szs:List Nat) (s:St) (k:D→Loc→Option R):Option R:=
 zCp P s res fun vs=>zCq s.L szs vs fun vs L=>zCr L szs vs fun rs=>if zh6 (rs.map (·.1))=true∧(rs.all fun x=>match x.1 with | some g=>ro g | none=>true)=true then (match rs with
   | [(_,d)]=>k d L
   | rs=>k (.tup (rs.map (·.2))) L) else none
def zpC (L:Loc):List (PM×Nat)→Nat→(List (List D)→Option R)→Option R
 | [],_,k=>k []
 | (p,sz)::r,i,k=>if p=.mut then (match L.get (90000+i) 0 with
   | .arr sz' els true=>if sz'=sz then sif (zdC els=true) (zpC L r (i+1) fun x=>k (els::x)) else none
   | _=>none) else zpC L r (i+1) k
theorem zyB {P:Program} {s:St} {x:ResultVar} {k:V→Option R} {r:R} (h:zFu P s x k=some r):∃ v,zAO P s x=some v∧k v=some r:=by
 cases x with
 | tmp t=>exact ⟨_,rfl,h⟩
 | cell a t=>exact zur h
theorem zsk {P:Program} {s:St} {r:R}:∀ {l:List ResultVar} {k:List V→Option R},zCp P s l k=some r→∃ vs,l.mapM (zAO P s)=some vs∧k vs=some r
 | [],k,h=>⟨[],rfl,h⟩
 | x::l,k,h=>by
  obtain ⟨v,h1,h2⟩:=zyB h
  obtain ⟨vs,h3,h4⟩:=zsk (k:=fun vs=>k (v::vs)) h2
  exact ⟨v::vs,by simp [List.mapM_cons,h1,h3],h4⟩
theorem zpD {r:R}:∀ {szs:List Nat} {vs:List V} {L:Loc} {k:List V→Loc→Option R},zCq L szs vs k=some r→∃ x,prep L szs vs=some x∧k x.1 x.2=some r
 | [],[],L,k,h=>⟨([],L),rfl,h⟩
 | [],_::_,_,k,h=>by cases h
 | _::_,[],_,k,h=>by cases h
 | sz::szs,v::vs,L,k,h=>by
  simp only [zCq] at h;simp only [prep];split at h
  ·rename_i hk;obtain ⟨x,h1,h2⟩:=zpD h;rw [if_pos hk,h1];exact ⟨_,rfl,h2⟩
  ·rename_i hk;obtain ⟨d,w,h1,h2⟩:=zoq h;rw [zvC] at h2;obtain ⟨x,h3,h4⟩:=zpD h2;rw [if_neg hk,h1];dsimp only [Option.bind_some];rw [h3];exact ⟨_,rfl,h4⟩
theorem zAZ {L:Loc} {sz:Nat} {v:V} {k:Option Nat×D→Option R} {r:R} (h:zGr L sz v k=some r):∃ x,zom L sz v=some x∧k x=some r:=by
 unfold zGr at h;split at h
 ·rename_i x;split at h
  ·rename_i hsz;split at h
   ·exact ⟨_,by simp only [zom,if_pos hsz],h⟩
   ·exact ⟨_,by simp only [zom,if_pos hsz],h⟩
   ·rename_i hf hn;obtain ⟨h1,h2⟩:=zaP h;refine ⟨(none,x),?_,h2⟩
    have:zom L sz (.d x)=if x.free=true then some ((none:Option Nat),x) else none:=by
     cases x with
     | sl t l=>cases l<;>cases t<;>first | rfl | exact (hf rfl).elim | exact (hn rfl).elim
     | _=>rfl
    rw [this,if_pos h1]
  ·rename_i hsz;obtain ⟨h1,h2⟩:=zaP h;refine ⟨(none,x),?_,h2⟩
   cases x with
   | sl t l=>cases l<;>cases t<;>simp_all [zom,D.free,D.freeL]
   | _=>simp only [zom,if_pos h1]
 ·obtain ⟨h1,h2⟩:=zaP h
  exact ⟨_,by simp only [zom,h1,if_true],h2⟩
 ·rename_i g n off len;split at h
  ·rename_i sz' els e;split at h
   ·rename_i hc;obtain ⟨h1,h2⟩:=zcK h;refine ⟨_,?_,h2⟩;simp only [zom,e];exact if_pos ⟨h1.1,hc.1,h1.2,hc.2⟩
   ·cases h
  ·cases h
 ·split at h
  ·rename_i kk es e;split at h
   ·rename_i hg;obtain ⟨h1,h2⟩:=zaP h;refine ⟨_,?_,h2⟩;simp only [zom,e];exact if_pos ⟨hg,h1⟩
   ·cases h
  ·cases h
 ·cases h
theorem zsl {L:Loc} {r:R}:∀ {szs:List Nat} {vs:List V} {k:List (Option Nat×D)→Option R},zCr L szs vs k=some r→∃ rs,zw5 L szs vs=some rs∧k rs=some r
 | [],[],k,h=>⟨[],rfl,h⟩
 | [],_::_,k,h=>by cases h
 | _::_,[],k,h=>by cases h
 | sz::szs,v::vs,k,h=>by
  obtain ⟨x,h1,h2⟩:=zAZ h
  obtain ⟨xs,h3,h4⟩:=zsl (k:=fun xs=>k (x::xs)) h2
  exact ⟨x::xs,by simp [zw5,h1,h3],h4⟩
theorem zA0 {P:Program} {ro:Nat→Bool} {res:List ResultVar} {szs:List Nat} {s:St} {k:D→Loc→Option R} {r:R} (h:zGs P ro res szs s k=some r):∃ d L,ares P ro res szs s=some (d,L)∧k d L=some r:=by
 obtain ⟨vs,h1,h2⟩:=zsk h;obtain ⟨⟨vs',L⟩,h3,h4⟩:=zpD h2;obtain ⟨rs,h5,h6⟩:=zsl h4;split at h6
 ·rename_i hd;unfold ares;rw [h1];dsimp only [Option.bind_some];rw [h3];dsimp only [Option.bind_some] at h5 ⊢;rw [h5];dsimp only [Option.bind_some];split at h6
  ·exact ⟨_,_,if_pos hd,h6⟩
  ·rename_i hno;refine ⟨_,_,(if_pos hd).trans ?_,h6⟩;split
   ·exact (hno _ _ rfl).elim
   ·rfl
 ·cases h6
theorem zk9 {L:Loc} {r:R}:∀ {pms:List (PM×Nat)} {i:Nat} {k:List (List D)→Option R},zpC L pms i k=some r→∃ x,zqv L pms i=some x∧k x=some r
 | [],i,k,h=>⟨[],rfl,h⟩
 | (p,sz)::pms,i,k,h=>by
  simp only [zpC] at h;simp only [zqv];split at h
  ·rename_i hp;rw [if_pos hp];split at h
   ·rename_i sz' els e;rw [e];dsimp only;split at h
    ·rename_i hs;obtain ⟨h1,h2⟩:=zaP h;obtain ⟨x,h3,h4⟩:=zk9 h2
     exact ⟨_,by rw [if_pos ⟨hs,h1⟩,h3]; rfl,h4⟩
    ·cases h
   ·cases h
  ·rename_i hp;rw [if_neg hp];exact zk9 h
def D.lnt:D→D
 | .sl _ l=>.sl .lent (D.lentL l)
 | d=>d.lent
def zsm (h:Option Sh) (d:D):D:=match h with
 | some _=>d.lent
 | none=>d.lnt
def zos (pms:List (PM×Nat)) (hs:zvw):Nat→List D→List D
 | _,[]=>[]
 | i,d::r=>(if (pmAt pms i).1=.lent then zsm (hs.at i) d else d)::zos pms hs (i+1) r
def zHO (pms:List (PM×Nat)) (i:Nat) (d:D):V:=if (pmAt pms i).1=.lent then .d d else match d with
 | .sl .own els=>.ref (90000+i) 0 0 els.length
 | _=>.d .undef
def zxi (pms:List (PM×Nat)):Nat→List D→List V
 | _,[]=>[]
 | i,d::r=>zHO pms i d::zxi pms (i+1) r
def zGt (pms:List (PM×Nat)) (g:Nat):Bool:=decide (g < 90000) || decide ((pmAt pms (g - 90000)).1=.own)
noncomputable def denB (P:Program) (Γ:Env) (ann:Ann) (szs:List Nat) (fn:Func) (code:Code) (ds:List D) (Ts:List Tb) (fin:D→List (List D)→List Tb→Option R):Option R:=
 zAQ P ann.pms ann.hints 0 fn.params.toList ds fun ds=>zD5 ann.ks.length Ts fun Ts=>if ds.length≤1000∧(ann.ks.map (·.1)).Nodup then
  zh7 (zxi ann.pms 0 ds++List.replicate (fn.ntmps - ds.length) (.d .undef)) fun slots=>den P Γ ann slots.length 0 code (fun e s=>match e with
   | .exit _=>none
   | _=>zGs P (zGt ann.pms) fn.results.toList szs s fun d L=>match zkb L (ann.ks.filter (·.2)) with
    | some tbs=>zpC L ann.pms 0 fun outs=>fin d outs tbs
    | none=>none) { slots,L:=zjD ann.pms ds ann.ks Ts } else none
noncomputable def denF (P:Program) (Γ:Env) (ann:Ann) (szs:List Nat) (f:FuncId) (ds:List D) (Ts:List Tb) (fin:D→List (List D)→List Tb→Option R):Option R:=
 match P.funcs[f]? with
 | some fn=>match fn.body with
  | some code=>denB P Γ ann szs fn code ds Ts fin
  | none=>none
 | none=>none
noncomputable def denS (P:Program) (Γ:Env) (ann:Ann) (szs:List Nat) (f:FuncId) (ds:List D) (Ts:List Tb):Option Ans:=denF P Γ ann szs f (zos ann.pms ann.hints 0 ds) Ts fun d outs tbs=>some ⟨d,outs,tbs⟩
noncomputable def denP (P:Program) (Γ:Env) (ann:Ann) (szs:List Nat) (f:FuncId) (ds:List D):Option D:=match ann.pms,ann.ks with
 | [],[]=>denF P Γ ann szs f (zos ann.pms ann.hints 0 ds) [] fun d _ _=>some d
 | _,_=>none
end
mutual
theorem lent_idem:∀ d:D,d.lent.lent=d.lent
 | .agg cs=>by simp only [D.lent,lentL_idem cs]
 | .sl .nil l=>by simp only [D.lent,lentL_idem l]
 | .sl .lent l=>by simp only [D.lent,lentL_idem l]
 | .sl .fresh l=>by simp only [D.lent,lentL_idem l]
 | .sl .full l=>by simp only [D.lent,lentL_idem l]
 | .sl .own l=>by simp only [D.lent,lentL_idem l]
 | .sl .nn []=>rfl
 | .sl .nul []=>rfl
 | .sl .nn (d::l)=>by simp only [D.lent,lentL_idem (d::l)]
 | .sl .nul (d::l)=>by simp only [D.lent,lentL_idem (d::l)]
 | .mp t k es=>by simp only [D.lent,lentE_idem es]
 | .fn f a b=>by simp only [D.lent,lentL_idem a,lentL_idem b]
 | .at_ d=>by simp only [D.lent,lent_idem d]
 | .tup l=>by simp only [D.lent,lentL_idem l]
 | .undef | .bool _ | .int _ _ | .str _ | .nilm | .nilp | .nilfn | .h _ _ _=>rfl
theorem lentL_idem:∀ l:List D,D.lentL (D.lentL l)=D.lentL l
 | []=>rfl
 | d::l=>by simp only [D.lentL,lent_idem d,lentL_idem l]
theorem lentE_idem:∀ l:List (Int×D),D.lentE (D.lentE l)=D.lentE l
 | []=>rfl
 | p::l=>by simp only [D.lentE,lentP_idem p,lentE_idem l]
theorem lentP_idem:∀ p:Int×D,D.lentP (D.lentP p)=D.lentP p
 | (n,d)=>by simp only [D.lentP,lent_idem d]
end
theorem zEe (d:D):d.lnt.lent=d.lnt:=by
 cases d with
 | sl t l=>simp only [D.lnt,D.lent,lentL_idem]
 | _=>exact lent_idem _
theorem zyC (h:Option Sh) (d:D):(zsm h d).lent=zsm h d:=by
 cases h with
 | none=>exact zEe d
 | some _=>exact lent_idem d
theorem zA1 {w A N γ} (h:Option Sh) {d:D} {u:Value} (hr:Rep w A N γ d.lent u):Rep w A N γ (zsm h d) u:=by
 cases h with
 | some _=>exact hr
 | none=>
  show Rep w A N γ d.lnt u
  cases d with
  | sl t l=>
   cases t with
   | nil=>
    simp only [D.lnt];simp only [D.lent] at hr;generalize D.lentL l=l' at*
    cases hr with
    | slE _ a cap h1 h2 _=>exact .slE _ _ _ (by simp) (by simp) (by simp)
    | sl _ _ _ _ _ _ _ _ h=>exact absurd rfl h
   | nn=>cases l with
    | nil=>cases hr with
     | slE _ a cap h1 h2 _=>exact .slE _ _ _ (by simp) (by simp) (by simp)
     | sl _ _ _ _ _ _ _ h=>exact absurd rfl h
    | cons d l=>exact hr
   | nul=>cases l with
    | nil=>cases hr with
     | slE _ a cap h1 h2 _=>exact .slE _ _ _ (by simp) (by simp) (by simp)
     | sl _ _ _ _ _ _ _ h=>exact absurd rfl h
    | cons d l=>exact hr
   | _=>exact hr
  | _=>exact hr
theorem zxj {pms:List (PM×Nat)} {hs:zvw}:∀ {ds:List D} {i j:Nat},(zos pms hs i ds)[j]? =(ds[j]?).map fun d=>if (pmAt pms (i+j)).1=.lent then zsm (hs.at (i+j)) d else d
 | [],i,j=>by simp [zos]
 | d::ds,i,0=>by simp [zos]
 | d::ds,i,j+1=>by
  simp only [zos,List.getElem?_cons_succ]
  rw [zxj,show i+1+j=i+(j+1) by omega]
theorem zxk {pms:List (PM×Nat)} {hs:zvw}:∀ {ds:List D} {i:Nat},(zos pms hs i ds).length=ds.length
 | [],i=>rfl
 | d::ds,i=>by simp [zos,zxk]
theorem zxl {pms:List (PM×Nat)}:∀ {ds:List D} {i:Nat},(∀ j d,ds[j]? =some d→(pmAt pms (i+j)).1=.lent→d.lent=d)→zxi pms i ds=zk3 pms i ds
 | [],i,_=>rfl
 | d::ds,i,h=>by
  simp only [zxi,zk3]
  rw [zxl fun j d' hd hl=>h (j+1) d' (by simpa using hd) (by rw [←hl]; congr 2; omega)]
  congr 1;unfold zHO zD4;split
  ·rename_i hl
   rw [h 0 d (by simp) hl]
  ·rfl
section
variable {P:Program} {Γ:Env}
theorem zyD (hΓ : ∀ f sp, Γ f = some sp → za2 P f sp) (hP : P.follows .mixedOrders = true) {ann : Ann} {szs : List Nat} {f : FuncId} (hf : ∃ fn, P.funcs[f]? = some fn ∧ (fn.name == "runtime.NumGoroutine") = false ∧ fn.body.isNone = false)
    {R:Type} {fin:D→List (List D)→List Tb→Option R} {a:R} {ds0:List D} {Ts:List Tb} (h:denF P Γ ann szs f (zos ann.pms ann.hints 0 ds0) Ts fin=some a) (hTl:Ts.length=ann.ks.length) {w:World} {γ:Nat→Nat→Option Nat} {ρ:Nat→Nat→Nat→Option Nat} {O:Nat→Prop} {gv:Nat→Option Nat} {us:List Value}
    (hT:TabRel (zbB ann.ks Ts) (zjA γ ρ O) (fun b=>b < w.heap.size∧¬ (O b∨Gv gv b)) w) (hO:∀ b,O b→b < w.heap.size∧Ows (zjA γ ρ O) (zbB ann.ks Ts) (· ∈ksW ann.ks) b) (hgv:∀ i b,gv i=some b→b < w.heap.size∧¬ O b) (hinj:∀ i j b,gv i=some b→gv j=some b→i=j) (hlen:∀ i,ds0.length≤i→gv i=none)
    (hargs:zt9 w (fun b=>O b∨Gv gv b) γ ann.pms gv ds0 us):
    Calls P f us.toArray w fun e w'=>∃ d outs tbs,fin d outs tbs=some a∧∃ v γ' ρ' O',e=.returned v∧Turned w w' γ γ' ρ ρ' O O' ann.pms gv ann.ks ds0 Ts (zdu ann.ks Ts tbs) outs szs d v:=by
  obtain ⟨fn,hf,_,hbn⟩:=hf
  unfold denF at h
  rw [hf] at h
  dsimp only at h
  cases hb:fn.body with
  | none=>rw [hb] at hbn; cases hbn
  | some code=>
  rw [hb] at h
  dsimp only at h
  unfold denB at h
  have h1:=zpy h
  have h2:(zos ann.pms ann.hints 0 ds0).length=ds0.length:=zxk
  have h3:∀ (j:Nat) (d:D),(zos ann.pms ann.hints 0 ds0)[j]? =some d→∃ d0,ds0[j]? =some d0∧d=if (pmAt ann.pms j).1=.lent then zsm (ann.hints.at j) d0 else d0:=by
    intro j d hd
    rw [zxj,Nat.zero_add] at hd
    cases h:ds0[j]? with
    | none=>rw [h] at hd; cases hd
    | some d0=>rw [h] at hd; exact ⟨d0,rfl,(Option.some.inj hd).symm⟩
  generalize zos ann.pms ann.hints 0 ds0=ds at h1 h2 h3
  obtain ⟨_,h4⟩:=zpx h1
  split at h4
  rotate_left
  · cases h4
  rename_i hc
  obtain ⟨hn,hnd⟩:=hc
  rw [zdU] at h4
  have hget:∀ (j:Nat) (d:D),ds[j]? =some d→∃ d0,ds0[j]? =some d0∧((pmAt ann.pms j).1≠.lent→d=d0)∧((pmAt ann.pms j).1=.lent→d=zsm (ann.hints.at j) d0):=by
    intro j d hd
    obtain ⟨d0,e1,e2⟩:=h3 j d hd
    exact ⟨d0,e1,fun hl=>by rw [e2,if_neg hl],fun hl=>by rw [e2,if_pos hl]⟩
  have hargs':zt9 w (fun b=>O b∨Gv gv b) γ ann.pms gv ds us:=by
    refine ⟨by rw [h2]; exact hargs.1,fun i d u hd hu=>?_⟩
    obtain ⟨d0,e1,e2,e3⟩:=hget i d hd
    obtain ⟨a1,a2⟩:=hargs.2 i d0 u e1 hu
    refine ⟨fun hl=>⟨(a1 hl).1,by rw [e3 hl]; exact zA1 _ ((a1 hl).2.lent _)⟩,fun hl=>?_⟩
    rw [e2 hl]; exact a2 hl
  have hslots:zxi ann.pms 0 ds=zk3 ann.pms 0 ds:=by
    refine zxl fun j d hd hl=>?_
    rw [Nat.zero_add] at hl
    obtain ⟨d0,e1,e2,e3⟩:=hget j d hd
    rw [e3 hl]; exact zyC _ _
  have hlen':∀ i,ds.length≤i→gv i=none:=fun i hi=>hlen i (by omega)
  have h0:=zB3 (n:=fn.ntmps) hn hT (fun b h=>(hO b h).1) hgv hinj hargs'
  refine calls_of_wp hf hb ?_
  rw [hslots] at h4
  refine zk8 hΓ hP code 0 _ _ _ w h4 ⟨_,h0⟩ _ fun e s at' w' he hr=>?_
  have hen:(e=.normal∨e=.ret)∧zGs P (zGt ann.pms) fn.results.toList szs s (fun d L=>match zkb L (ann.ks.filter (·.2)) with
        | some tbs=>zpC L ann.pms 0 fun outs=>fin d outs tbs
        | none=>none)=some a:=by
    cases e with
    | normal=>exact ⟨.inl rfl,he⟩
    | ret=>exact ⟨.inr rfl,he⟩
    | exit id=>cases he
  obtain ⟨hen,hk⟩:=hen
  obtain ⟨d,L',ha,hd⟩:=zA0 hk
  split at hd
  rotate_left
  · cases hd
  rename_i tbs htb
  obtain ⟨outs,ho,hd⟩:=zk9 hd
  obtain ⟨c,hc⟩:=hr
  obtain ⟨v,k1,k2,k3⟩:=zGa (Og:=OwnG ann.pms gv) hc (fun g b hg1 hg2 hg3=>by
    simp only [zGt,Bool.or_eq_true,decide_eq_true_eq] at hg1
    rcases hg1 with hg1 | hg1
    · omega
    · refine ⟨g - 90000,hg1,?_⟩
      have hg3:(match given ann.pms ds g with | some _=>gv (g - 90000) | none=>none)=some b:=hg3
      split at hg3
      · exact hg3
      · cases hg3) ha
  have hturn:=zHL (n:=fn.ntmps) hn hT hO hgv hinj hlen' hargs' hTl hnd k2 htb ho k3
  have hturn':Turned w w' γ c.γ ρ c.ρ O c.O ann.pms gv ann.ks ds0 Ts (zdu ann.ks Ts tbs) outs szs d v:=
    ⟨hturn.more,hturn.same,hturn.tab,hturn.osub,hturn.kept,fun i sz els els' p1 p2 p3 p4=>hturn.outs i sz els els' p1 (by
      have hi:i < ds.length:=by rw [h2]; exact za4 p2
      have hd:ds[i]? =some ds[i]:=by simp
      obtain ⟨d0,e1,e2,e3⟩:=hget i _ hd
      rw [hd,e2 (by rw [p1]; simp),←e1,p2]) p3 p4,hturn.res⟩
  have hfin:at'.defers=[]∧∃ v,(results fn at'.tmps).run P w'=.ok v w'∧∃ d outs tbs,fin d outs tbs=some a∧∃ v' γ' ρ' O',Ending.returned v=.returned v'∧Turned w w' γ γ' ρ ρ' O O' ann.pms gv ann.ks ds0 Ts (zdu ann.ks Ts tbs) outs szs d v':=
    ⟨hc.defers,v,k1,d,outs,tbs,hd,v,c.γ,c.ρ,c.O,rfl,hturn'⟩
  rcases hen with rfl | rfl
  · exact hfin
  · exact hfin
theorem zbg (hΓ : ∀ f sp, Γ f = some sp → za2 P f sp) (hP : P.follows .mixedOrders = true) {ann : Ann} {szs : List Nat} {f : FuncId} (hf : ∃ fn, P.funcs[f]? = some fn ∧ (fn.name == "runtime.NumGoroutine") = false ∧ fn.body.isNone = false) :
    za2 P f (.st ann.pms szs ann.ks (denS P Γ ann szs f)):=by
  refine ⟨hf,fun ds0 Ts a h hTl w γ ρ O gv us hT hO hgv hinj hlen hargs=>?_⟩
  refine (zyD hΓ hP hf h hTl hT hO hgv hinj hlen hargs).mono fun e w' ⟨d,outs,tbs,h1,v,γ',ρ',O',h2,h3⟩=>?_
  injection h1 with h1; subst h1
  exact ⟨v,γ',ρ',O',h2,h3⟩
theorem zpq.out {w:World} {A A':Nat→Prop} {N:Nat} {γ} {szs:List Nat} {r:D} {v:Value} (h:zpq w A N γ szs r v) (hA:∀ b,A' b→A b):zpq w A' N γ szs r v:=by
 obtain ⟨ow,h1,h2,h3⟩:=h
 have hcomp:∀ {β:Option Nat} {sz:Nat} {d:D} {u:Value},zgK w (fun b=>A b∨∃ i,ow i=some b) N γ β sz d u→zgK w (fun b=>A' b∨∃ i,ow i=some b) N γ β sz d u:=by
  intro β sz d u hc
  have hA':∀ b,(A' b∨∃ i,ow i=some b)→(A b∨∃ i,ow i=some b):=fun b h=>h.imp (hA b) id
  have other:(∀ els,d≠.sl .own els)→(β=none∧Rep w (fun b=>A b∨∃ i,ow i=some b) N γ d u)→(β=none∧Rep w (fun b=>A' b∨∃ i,ow i=some b) N γ d u):=fun _ h=>⟨h.1,h.2.out hA' (Nat.le_refl _)⟩
  cases d with
  | sl t l=>
   cases t with
   | own=>
    obtain ⟨c1,c2⟩:=hc;refine ⟨c1,?_⟩
    cases β with
    | none=>exact c2
    | some b=>
     obtain ⟨x,T,fz,p1,p2,p3,vs,p4⟩:=c2
     exact ⟨x,T,fz,p1,p2,p3,vs,fun i d hd=>⟨(p4 i d hd).1.out hA' (Nat.le_refl _),(p4 i d hd).2⟩⟩
   | _=>exact other (by simp) hc
  | _=>exact other (by simp) hc
 refine ⟨ow,h1,fun i b hb=>⟨(h2 i b hb).1,fun h=>(h2 i b hb).2 (hA b h)⟩,?_⟩
 cases r with
 | tup ds=>
  obtain ⟨vs,e1,e2,e3,e4⟩:=h3
  exact ⟨vs,e1,e2,e3,fun i d u sz a b c=>hcomp (e4 i d u sz a b c)⟩
 | _=>
  obtain ⟨sz,e1,e2⟩:=h3;exact ⟨sz,e1,hcomp e2⟩
theorem zam (hΓ : ∀ f sp, Γ f = some sp → za2 P f sp) (hP : P.follows .mixedOrders = true) {ann : Ann} {szs : List Nat} {f : FuncId} (hf : ∃ fn, P.funcs[f]? = some fn ∧ (fn.name == "runtime.NumGoroutine") = false ∧ fn.body.isNone = false) :
    za2 P f (.pure szs (denP P Γ ann szs f)):=by
  refine ⟨hf,fun ds r h w γ us hus=>?_⟩
  unfold denP at h
  split at h
  rotate_left
  · cases h
  rename_i e1 e2
  have hpm:∀ i,(pmAt ann.pms i).1=.lent:=fun i=>by rw [e1]; rfl
  have hL:∀ Ts,zbB ann.ks Ts=fun _=>(0,.dead):=by
    intro Ts; rw [e2]; cases Ts<;>rfl
  have hTn:∀ (Ts:List Tb) k,za9 (zbB ann.ks Ts) k=none:=fun Ts k=>by rw [hL]; rfl
  have hT:TabRel (zbB ann.ks []) (zjA γ (fun _ _ _=>none) (fun _=>False)) (fun b=>b < w.heap.size∧¬ (False∨Gv (fun _=>none) b)) w:=by
    refine ⟨fun k wr T i cs h=>?_,fun k wr T i b h=>?_,fun k i q k' i' q' b h=>?_,fun k T i q b h=>?_,fun k T i q b h=>?_⟩
    · rw [hTn] at h; cases h
    · rw [hTn] at h; cases h
    · obtain ⟨_,_,h⟩:=h.tab; rw [hTn] at h; cases h
    · rw [hTn] at h; cases h
    · rw [hTn] at h; cases h
  refine (zyD hΓ hP hf h (by rw [e2]; rfl) hT (fun b h=>h.elim) (fun i b h=>by cases h) (fun i j b h=>by cases h) (fun _ _=>rfl) ⟨hus.1,fun i d u hd hu=>⟨fun _=>⟨rfl,(hus.2 i d u hd hu).out (fun b h=>by
      rcases h with h | ⟨_,h⟩
      · exact h
      · cases h) (Nat.le_refl _)⟩,fun h=>absurd (hpm i) h⟩⟩).mono fun e w' ⟨d,outs,tbs,h1,v,γ',ρ',O',h2,h3⟩=>?_
  injection h1 with h1; subst h1
  have hγ:γ'=γ:=funext fun k=>(h3.same k (by rw [e2]; simp [ksW])).1
  subst hγ
  have hno:∀ b,¬ OwnG ann.pms (fun _=>none) b:=by rintro b ⟨_,_,h⟩; cases h
  refine ⟨v,h2,⟨h3.kept.os,h3.kept.tape,h3.kept.output,h3.kept.size,fun b hb _=>h3.kept.block b hb (by
    rintro (h | ⟨_,h⟩)
    · exact h
    · cases h),h3.kept.cells⟩,h3.res.out fun b hb=>.inl ⟨hb,hno b⟩⟩
end
end Wf

namespace Wf
open Go Go.RowKit
mutual
def D.noh:D→Bool
 | .h _ _ _=>false
 | .agg cs=>D.nohL cs
 | .sl _ l=>D.nohL l
 | .mp _ _ es=>D.nohE es
 | .fn _ a b=>D.nohL a && D.nohL b
 | .at_ d=>d.noh
 | .tup l=>D.nohL l
 | _=>true
def D.nohL:List D→Bool
 | []=>true
 | d::r=>d.noh && D.nohL r
def D.nohE:List (Int×D)→Bool
 | []=>true
 | p::r=>D.nohP p && D.nohE r
def D.nohP:Int×D→Bool
 | (_,d)=>d.noh
end
theorem zh8 {l:List D} (h:D.nohL l=true):∀ {i:Nat} {d:D},l[i]? =some d→d.noh=true:=by
 induction l with
 | nil=>intro i d h; simp at h
 | cons x l ih=>
  simp only [D.nohL,Bool.and_eq_true] at h;intro i d hd
  cases i with
  | zero=>simp at hd; subst hd; exact h.1
  | succ i=>exact ih h.2 (by simpa using hd)
theorem zEf {l:List (Int×D)} (h:D.nohE l=true):∀ {i:Nat} {d:Int×D},l[i]? =some d→d.2.noh=true:=by
 induction l with
 | nil=>intro i d h; simp at h
 | cons x l ih=>
  simp only [D.nohE,Bool.and_eq_true] at h;intro i d hd
  cases i with
  | zero=>simp at hd; subst hd; obtain ⟨n,y⟩:=x; exact h.1
  | succ i=>exact ih h.2 (by simpa using hd)
theorem Rep.noh {w:World} {A:Nat→Prop} {N:Nat} {γ γ':Nat→Nat→Option Nat} {d:D} {u:Value} (h:Rep w A N γ d u):d.noh=true→Rep w A N γ' d u:=by
 induction h with
 | undef v=>exact fun _=>.undef v
 | bool b=>exact fun _=>.bool b
 | int k n=>exact fun _=>.int k n
 | str s=>exact fun _=>.str s
 | nilp=>exact fun _=>.nilp
 | nilfn=>exact fun _=>.nilfn
 | agg cs vs h1 _ h3 ih=>exact fun h=>.agg cs vs h1 (fun i d v hd hv=>ih i d v hd hv (zh8 h hd)) h3
 | tup cs vs h1 _ ih=>exact fun h=>.tup cs vs h1 fun i d v hd hv=>ih i d v hd hv (zh8 h hd)
 | fn f a b va vb h1 h2 _ _ ih1 ih2=>
  intro h;simp only [D.noh,Bool.and_eq_true] at h
  exact .fn f a b va vb h1 h2 (fun i d v hd hv=>ih1 i d v hd hv (zh8 h.1 hd)) fun i d v hd hv=>ih2 i d v hd hv (zh8 h.2 hd)
 | slE t a cap h h' h''=>exact fun _=>.slE t a cap h h' h''
 | sl t l b o sz cap vs h1 h1' h2 h3 h4 h5 h6 _ h8 ih=>exact fun h=>.sl t l b o sz cap vs h1 h1' h2 h3 h4 h5 h6 (fun i d hd=>ih i d hd (zh8 h hd)) h8
 | at_ d v b o h1 h2 h3 _ ih=>exact fun h=>.at_ d v b o h1 h2 h3 (ih h)
 | h k i off b hn=>exact fun h=>by cases h
 | nilm=>exact fun _=>.nilm
 | mp t k es b m ck h1 h2 h3 h4 h5 h6 _ ih=>exact fun h=>.mp t k es b m ck h1 h2 h3 h4 h5 h6 fun i e p he hp=>ih i e p he hp (zEf h hp)
theorem zpq.noh {w:World} {A:Nat→Prop} {N:Nat} {γ γ':Nat→Nat→Option Nat} {szs:List Nat} {r:D} {v:Value} (h:zpq w A N γ szs r v) (hr:r.noh=true):zpq w A N γ' szs r v:=by
 obtain ⟨ow,h1,h2,h3⟩:=h
 have hcomp:∀ {A:Nat→Prop} {β:Option Nat} {sz:Nat} {d:D} {u:Value},d.noh=true→zgK w A N γ β sz d u→zgK w A N γ' β sz d u:=by
  intro A β sz d u hd hc
  have other:(β=none∧Rep w A N γ d u)→(β=none∧Rep w A N γ' d u):=fun h=>⟨h.1,h.2.noh hd⟩
  cases d with
  | sl t l=>
   cases t with
   | own=>
    obtain ⟨c1,c2⟩:=hc;refine ⟨c1,?_⟩
    cases β with
    | none=>exact c2
    | some b=>
     obtain ⟨x,T,fz,p1,p2,p3,vs,p4⟩:=c2
     exact ⟨x,T,fz,p1,p2,p3,vs,fun i d hi=>⟨(p4 i d hi).1.noh (zh8 hd hi),(p4 i d hi).2⟩⟩
   | _=>exact other hc
  | _=>exact other hc
 refine ⟨ow,h1,h2,?_⟩
 cases r with
 | tup ds=>
  obtain ⟨vs,e1,e2,e3,e4⟩:=h3
  exact ⟨vs,e1,e2,e3,fun i d u sz a b c=>hcomp (zh8 hr a) (e4 i d u sz a b c)⟩
 | _=>
  obtain ⟨sz,e1,e2⟩:=h3;exact ⟨sz,e1,hcomp hr e2⟩
noncomputable def zsn (x y:Option D):Option D:=open Classical in if x=y then x else none
theorem zxm {x y:Option D} {r:D} (h:zsn x y=some r):x=some r∧y=some r:=by
 unfold zsn at h;split at h
 ·rename_i e; exact ⟨h,by rw [←e]; exact h⟩
 ·cases h
theorem zqD (x:Option D):zsn x x=x:=by unfold zsn; simp
noncomputable def denE (P:Program) (Γ:Env) (ann:Ann) (szs:List Nat) (f:FuncId) (ds:List D):Option D:=match ds with
 | [.sl _ []]=>zsn (denP P Γ { ann with hints:=[(0,.cell .sl)] } szs f [.sl .nul []]) (denP P Γ { ann with hints:=[(0,.cell .sl)] } szs f [.sl .nn []])
 | ds=>denP P Γ ann szs f ds
theorem zuw {P : Program} {Γ : Env} (hΓ : ∀ f sp, Γ f = some sp → za2 P f sp) (hP : P.follows .mixedOrders = true) {ann : Ann} {szs : List Nat} {f : FuncId} (hf : ∃ fn, P.funcs[f]? = some fn ∧ (fn.name == "runtime.NumGoroutine") = false ∧ fn.body.isNone = false) :
    za2 P f (.pure szs (denE P Γ ann szs f)):=by
  refine ⟨hf,fun ds r h w γ us hus=>?_⟩
  unfold denE at h
  split at h
  · obtain ⟨h1,h2⟩:=zxm h
    have hl:=hus.1
    match us,hl with
    | [u],_=>
      have hr:=hus.2 0 _ u rfl rfl
      cases hr with
      | slE _ a cap _ _ _=>
        cases a with
        | none=>exact (zam hΓ hP hf).2 _ r h1 w γ _ (Reps.cons (.slE .nul none cap (by simp) (by simp) (by simp)) Reps.nil)
        | some a=>exact (zam hΓ hP hf).2 _ r h2 w γ _ (Reps.cons (.slE .nn (some a) cap (by simp) (by simp) (by simp)) Reps.nil)
      | sl _ _ _ _ _ _ _ h=>exact absurd rfl h
  · exact (zam hΓ hP hf).2 ds r h w γ us hus
def fnOf:List D→Nat
 | .fn f _ _::_=>f
 | _::r=>fnOf r
 | []=>0
def selA:List (Nat×Ann)→Nat→Ann
 | [],_=>{}
 | (f,a)::r,g=>if f=g then a else selA r g
noncomputable def denA (P:Program) (Γ:Env) (l:List (Nat×Ann)) (szs:List Nat) (f:FuncId) (ds:List D):Option D:=denP P Γ (selA l (fnOf ds)) szs f ds
theorem zux {P : Program} {Γ : Env} (hΓ : ∀ f sp, Γ f = some sp → za2 P f sp) (hP : P.follows .mixedOrders = true) {l : List (Nat × Ann)} {szs : List Nat} {f : FuncId} (hf : ∃ fn, P.funcs[f]? = some fn ∧ (fn.name == "runtime.NumGoroutine") = false ∧ fn.body.isNone = false) :
    za2 P f (.pure szs (denA P Γ l szs f)):=
  ⟨hf,fun ds r h w γ us hus=>(zam hΓ hP hf).2 ds r h w γ us hus⟩
noncomputable def denT (P:Program) (Γ:Env) (ann:Ann) (szs:List Nat) (f:FuncId) (ds:List D):Option D:=match ann.pms with
 | []=>sif (D.nohL ds=true) (denF P Γ ann szs f (zos ann.pms ann.hints 0 ds) (ann.ks.map fun _=>[]) fun d _ _=>sif (d.noh=true) (some d))
 | _=>none
theorem zot:∀ (ks:List (Nat×Bool)) (k:Nat),za9 (zbB ks (ks.map fun _=>[])) k=none∨∃ w,za9 (zbB ks (ks.map fun _=>[])) k=some (w,[])
 | [],k=>.inl rfl
 | (k0,w0)::ks,k=>by
  simp only [List.map_cons,zbB];rw [ziO]
  by_cases e:k=k0
  ·rw [if_pos e]; exact .inr ⟨w0,rfl⟩
  ·rw [if_neg e]; exact zot ks k
theorem zuy {P : Program} {Γ : Env} (hΓ : ∀ f sp, Γ f = some sp → za2 P f sp) (hP : P.follows .mixedOrders = true) {ann : Ann} {szs : List Nat} {f : FuncId} (hf : ∃ fn, P.funcs[f]? = some fn ∧ (fn.name == "runtime.NumGoroutine") = false ∧ fn.body.isNone = false) :
    za2 P f (.pure szs (denT P Γ ann szs f)):=by
  refine ⟨hf,fun ds r h w γ us hus=>?_⟩
  unfold denT at h
  split at h
  rotate_left
  · cases h
  rename_i e1
  obtain ⟨hnoh,h⟩:=zaP h
  have hpm:∀ i,(pmAt ann.pms i).1=.lent:=fun i=>by rw [e1]; rfl
  have hTn:=zot ann.ks
  have hth:∀ k i q,¬ zcw (zbB ann.ks (ann.ks.map fun _=>[])) k i q:=by
    intro k i q h
    cases q with
    | none=>
      obtain ⟨wr,T,h1,h2⟩:=h
      rcases hTn k with e | ⟨w',e⟩<;>rw [e] at h1<;>cases h1
      simp at h2
    | some o=>
      obtain ⟨wr,T,d,h1,h2,h3⟩:=h
      rcases hTn k with e | ⟨w',e⟩<;>rw [e] at h1<;>cases h1
      simp [zc5] at h2
  have hT:TabRel (zbB ann.ks (ann.ks.map fun _=>[])) (zjA (fun _ _=>none) (fun _ _ _=>none) (fun _=>False)) (fun b=>b < w.heap.size∧¬ (False∨Gv (fun _=>none) b)) w:=by
    refine ⟨fun k wr T i cs h h'=>?_,fun k wr T i b h h'=>?_,fun k i q k' i' q' b h=>absurd h (hth _ _ _),fun k T i q b _ h=>absurd h (hth _ _ _),fun k T i q b _ h=>absurd h (hth _ _ _)⟩
    · rcases hTn k with e | ⟨w',e⟩<;>rw [e] at h<;>cases h
      simp at h'
    · cases h'
  refine (zyD hΓ hP hf h (by simp) hT (fun b h=>h.elim) (fun i b h=>by cases h) (fun i j b h=>by cases h) (fun _ _=>rfl) ⟨hus.1,fun i d u hd hu=>⟨fun _=>⟨rfl,((hus.2 i d u hd hu).out (fun b h=>by
      rcases h with h | ⟨_,h⟩
      · exact h
      · cases h) (Nat.le_refl _)).noh (zh8 hnoh hd)⟩,fun h=>absurd (hpm i) h⟩⟩).mono fun e w' ⟨d,outs,tbs,h1,v,γ',ρ',O',h2,h3⟩=>?_
  obtain ⟨hd,h1⟩:=zaP h1
  injection h1 with h1; subst h1
  have hno:∀ b,¬ OwnG ann.pms (fun _=>none) b:=by rintro b ⟨_,_,h⟩; cases h
  refine ⟨v,h2,⟨h3.kept.os,h3.kept.tape,h3.kept.output,h3.kept.size,fun b hb _=>h3.kept.block b hb (by
    rintro (h | ⟨_,h⟩)
    · exact h
    · cases h),h3.kept.cells⟩,(h3.res.out fun b hb=>.inl ⟨hb,hno b⟩).noh hd⟩
structure Fact (P:Program) where
 f:FuncId
 sp:Spec
 ok:za2 P f sp
def zax:List (FuncId×Spec)→Env
 | []=>fun _=>none
 | x::r=>fun f=>if f=x.1 then some x.2 else zax r f
def penv {P:Program} (l:List (Fact P)):Env:=zax (l.map fun x=>(x.f,x.sp))
theorem zaA {P:Program} (l:List (Fact P)):Env.Ok P (penv l):=by
 induction l with
 | nil=>intro f sp h; cases h
 | cons x r ih=>
  intro f sp h;unfold penv at h ih;simp only [List.map_cons,zax] at h;split at h
  ·rename_i e;injection h with h; subst h; subst e;exact x.ok
  ·exact ih f sp h
end Wf

namespace Wf
open Go Go.RowKit
section
variable {R α:Type}
@[simp] theorem zaX (x y:Option R):brK true x y=x:=rfl
@[simp] theorem zaq (x y:Option R):brK false x y=y:=rfl
theorem zbZ (b:Bool) (x y:Option R):brK b x y=if b=true then x else y:=by cases b<;>rfl
@[simp] theorem zaa {c:Prop} [Decidable c] (h:c) (x:Option R):sif c x=x:=by unfold sif; rw [if_pos h]
@[simp] theorem zad (a:α) (f:α→Option R):zan (some a) f=f a:=rfl
@[simp] theorem zEg (f:α→Option R):zan none f=none:=rfl
@[simp] theorem za3 (k:IntKind) (n:Int) (f:Int→Option R):asI k (.int k n) f=f n:=by simp [asI]
@[simp] theorem zch (b:Bool) (f:Bool→Option R):asB (.bool b) f=f b:=rfl
@[simp] theorem zIX (b:ByteArray) (f:ByteArray→Option R):asS (.str b) f=f b:=rfl
@[simp] theorem zc0 (t:Tag) (l:List D) (f:Tag→List D→Option R):asSl (.sl t l) f=f t l:=rfl
@[simp] theorem zbA (l:List D) (f:List D→Option R):zbe (.sl .own l) f=f l:=rfl
@[simp] theorem zGu (l:List D) (f:List D→Option R):zmX (.sl .lent l) f=f l:=rfl
@[simp] theorem zla (l:List D) (f:List D→Option R):asAgg (.agg l) f=f l:=rfl
@[simp] theorem zdX (l:List D) (f:List D→Option R):zdP (.tup l) f=f l:=rfl
@[simp] theorem zIY (d:D) (f:D→Option R):asAt (.at_ d) f=f d:=rfl
@[simp] theorem zHP (d:D) (f:D→Option R):zB5 [d] f=f d:=rfl
@[simp] theorem zIB (i:Nat) (f:α→Option R):getK [] i f=none:=by simp [getK]
@[simp] theorem zso (a:α) (l:List α) (f:α→Option R):getK (a::l) 0 f=f a:=rfl
@[simp] theorem zhu (a:α) (l:List α) (i:Nat) (f:α→Option R):getK (a::l) (i+1) f=getK l i f:=by simp [getK]
theorem zal {l:List α} {i:Nat} {a:α} (h:l[i]? =some a) (f:α→Option R):getK l i f=f a:=by unfold getK; rw [h]
@[simp] theorem zee (f:LfT []→Option R):zaz [] [] f=f ():=rfl
@[simp] theorem zfd (k:IntKind) (n:Int) (ls:List Lf) (cs:List D) (f:LfT (.int k::ls)→Option R):zaz (.int k::ls) (.int k n::cs) f=zaz ls cs fun y=>f (n,y):=by simp [zaz,zdV,Lf.get]
@[simp] theorem zEh (b:Bool) (ls:List Lf) (cs:List D) (f:LfT (.bool::ls)→Option R):zaz (.bool::ls) (.bool b::cs) f=zaz ls cs fun y=>f (b,y):=by simp [zaz,zdV,Lf.get]
@[simp] theorem zGv (t:Tag) (l:List D) (ls:List Lf) (cs:List D) (f:LfT (.sl::ls)→Option R):zaz (.sl::ls) (.sl t l::cs) f=zaz ls cs fun y=>f ((t,l),y):=by simp [zaz,zdV,Lf.get]
@[simp] theorem zEi (l:List D) (ls:List Lf) (cs:List D) (f:LfT (.lent::ls)→Option R):zaz (.lent::ls) (.sl .lent l::cs) f=zaz ls cs fun y=>f (l,y):=by simp [zaz,zdV,Lf.get]
@[simp] theorem zc4 (d:D) (ls:List Lf) (cs:List D) (f:LfT (.any::ls)→Option R):zaz (.any::ls) (d::cs) f=zaz ls cs fun y=>f (d,y):=by simp [zaz,zdV,Lf.get]
@[simp] theorem zJj (k i:Nat) (f:Nat→Option R):asH k (.h k i 0) f=f i:=by simp [asH]
@[simp] theorem zHk (f:Bool→Option R):zpv .nilp f=f true:=rfl
@[simp] theorem zCs (k i o:Nat) (f:Bool→Option R):zpv (.h k i o) f=f false:=rfl
@[simp] theorem zHl (kk:MK) (es:List (Int×D)) (f:List (Int×D)→Option R):ziS kk (.mp .own kk es) f=f es:=by simp [ziS]
@[simp] theorem zHm (kk:MK) (es:List (Int×D)) (f:List (Int×D)→Option R):zr5 kk (.mp .lent kk es) f=f es:=by simp [zr5]
@[simp] theorem zsp (T:Tb) (f:Tb→Option R):letT T f=f T:=rfl
@[simp] theorem zex (a:α) (l:List α) (f:α→List α→Option R):zeE (a::l) f=f a l:=rfl
@[simp] theorem zci (x:Option R):nilK ([]:List α) x=x:=rfl
@[simp] theorem zFv (k i:Nat) (ls:List Lf) (cs:List D) (f:LfT (.hnd k::ls)→Option R):zaz (.hnd k::ls) (.h k i 0::cs) f=zaz ls cs fun y=>f (i,y):=by simp [zaz,zdV,Lf.get]
theorem zyE {T:Tb} {i o:Nat} {cs:List D} {x:D} (h:T[i]? =some cs):setT T i o x=T.set i (cs.set o x):=by unfold setT; rw [h]
theorem zef {T:Tb} {i o:Nat} {cs xs:List D} (h:T[i]? =some cs):za8 T i o xs=T.set i (cs.take o++xs++cs.drop (o+xs.length)):=by unfold za8; rw [h]
theorem zmh {T:Tb} {i:Nat} {cs:List D} (h:T[i]? =some cs) (x:List D):(T.set i x)[i]? =some x:=by rw [List.getElem?_set]; simp [za4 h]
@[simp] theorem zEj (g:α→Option R) (f:(α→Option R)→Option R):jn g f=f g:=rfl
@[simp] theorem zIC (n:Int) (f:Int→Option R):letN n f=f n:=rfl
@[simp] theorem zdD {β:Type} (l:List β):cut 0 l.length l=l:=by simp [cut]
@[simp] theorem zHQ:D.lentL []=[]:=rfl
@[simp] theorem zHn (d:D) (l:List D):D.lentL (d::l)=d.lent::D.lentL l:=rfl
@[simp] theorem zID (k:IntKind) (n:Int):D.lent (.int k n)=.int k n:=by simp [D.lent]
@[simp] theorem zHR (b:Bool):D.lent (.bool b)=.bool b:=by simp [D.lent]
theorem zxn {B:(α→Option R)→α→Option R} {μ:α→Nat} {S:α→Option R} {I:α→Prop}
  (h:∀ again a,I a→(∀ b,I b→μ b < μ a→again b=S b)→B again a=S a):∀ (n:Nat) (a:α),I a→μ a < n→fixN B n a=S a
 | 0,a,_,hn=>absurd hn (Nat.not_lt_zero _)
 | n+1,a,hI,hn=>by
  show B (fixN B n) a=S a
  exact h _ a hI fun b hb hlt=>zxn h n b hb (by omega)
theorem zfZ {B:(α→Option R)→α→Option R} (μ:α→Nat) (S:α→Option R) (I:α→Prop) {a:α}
  (h:∀ again a,I a→(∀ b,I b→μ b < μ a→again b=S b)→B again a=S a) (hI:I a) (hμ:μ a < 1099511627776):zb3 B a=S a:=
 zxn h fuel a hI (Nat.lt_of_lt_of_le hμ zpu)
theorem zCt {B:(α→Option R)→α→Option R} {μ:α→Nat} {Q:R→Prop} {I:α→Prop}
  (h:∀ again a,I a→(∀ b,I b→μ b < μ a→∃ r,again b=some r∧Q r)→∃ r,B again a=some r∧Q r):∀ (n:Nat) (a:α),I a→μ a < n→∃ r,fixN B n a=some r∧Q r
 | 0,a,_,hn=>absurd hn (Nat.not_lt_zero _)
 | n+1,a,hI,hn=>h _ a hI fun b hb hlt=>zCt h n b hb (by omega)
theorem zzY {B:(α→Option R)→α→Option R} (μ:α→Nat) (Q:R→Prop) (I:α→Prop) {a:α}
  (h:∀ again a,I a→(∀ b,I b→μ b < μ a→∃ r,again b=some r∧Q r)→∃ r,B again a=some r∧Q r) (hI:I a) (hμ:μ a < 1099511627776):∃ r,zb3 B a=some r∧Q r:=
 zCt h fuel a hI (Nat.lt_of_lt_of_le hμ zpu)
end
theorem zah {n:Int} (h0: -9223372036854775808≤n) (h1:n < 9223372036854775808):IntKind.i64.wrap n=n:=by
 have e:IntKind.i64.wrap n=if n % 18446744073709551616 < 9223372036854775808 then n % 18446744073709551616 else n % 18446744073709551616 - 18446744073709551616:=by
  simp [IntKind.wrap,IntKind.bits,IntKind.signed]
  try (split<;>omega)
 rw [e];split<;>omega
@[simp] def iD (n:Int):D:=.int .i64 n
def intL (l:List Int):List D:=l.map (D.int .i64)
theorem zou (l:List Int):D.lentL (intL l)=intL l:=by
 induction l with
 | nil=>rfl
 | cons n l ih=>unfold intL at*; simp [ih]
theorem zEk (l:List Int):D.nohL (intL l)=true:=by
 induction l with
 | nil=>rfl
 | cons n l ih=>exact ih
theorem zgf (l:List Int):(intL l).length=l.length:=by simp [intL]
theorem zEl {l:List Int} {j:Nat} (h:j < l.length):(intL l)[j]? =some (.int .i64 l[j]):=by simp [intL,h]
theorem zsq {R α:Type} (st:Nat→α) (W:Nat) {B:(α→Option R)→α→Option R} {r:Option R} (h1:∀ again k,k < W→B again (st k)=again (st (k+1))) (h2:∀ again,B again (st W)=r):
  ∀ (m k n:Nat),k+m=W→m < n→fixN B n (st k)=r
 | 0,k,n+1,h,_=>by
  have:k=W:=by omega
  subst this
  exact h2 _
 | m+1,k,n+1,h,hn=>by
  show B (fixN B n) (st k)=r
  rw [h1 _ k (by omega)]
  exact zsq st W h1 h2 m (k+1) n (by omega) (by omega)
theorem zcr {R α:Type} (st:Nat→α) (W:Nat) (hW:W < 100000) {B:(α→Option R)→α→Option R} {r:Option R} (h1:∀ again k,k < W→B again (st k)=again (st (k+1))) (h2:∀ again,B again (st W)=r):zb3 B (st 0)=r:=
 zsq st W h1 h2 W 0 fuel (by omega) (by have:=zpu; omega)
end Wf

namespace Wf
open Go Go.RowKit Go.ChangeShapes Go.WideShapes
theorem zov {H:Type} {enc:TypeId×Value→H} {P:Program} (hl:laidOutB P=true) {W W':World} {sp:Nat→Bool}:∀ {ts:List TypeId} {vs:List Value} {ds:List (DataW H)} {ps:List MemPlace},
  (ts.all fun t=>P.readableRec t && decide (t < P.types.size))=true→DataW.TrodAll enc P W 0 (fun _=>true) true ts vs ds ps→Below W.heap.size W W'→(∀ x∈ps,x.block < W.heap.size)→(∀ x∈ps,sp x.block=true)→
  DataW.TrodAll enc P W' 0 sp true ts vs ds ps
 | [],[],[],ps,_,h,_,_,_=>h
 | [],[],_::_,ps,_,h,_,_,_=>by simp [DataW.TrodAll] at h
 | [],_::_,_,ps,_,h,_,_,_=>by simp [DataW.TrodAll] at h
 | t::ts,vs,ds,ps,hr,h,hb,hlt,hsp=>by
  obtain ⟨v,vs',d,ds',p,q,rfl,rfl,rfl,h1,h2⟩:=trodAll_cons h;simp only [List.all_cons,Bool.and_eq_true,decide_eq_true_eq] at hr
  exact trodAll_cons_mk (WideElems.Trod_stays hl hr.1.1 hr.1.2 h1 (fun x hx=>hb.same (hlt x (List.mem_append_left _ hx))) (fun x hx=>hsp x (List.mem_append_left _ hx)))
   (zov hl (by simpa using hr.2) h2 hb (fun x hx=>hlt x (List.mem_append_right _ hx)) (fun x hx=>hsp x (List.mem_append_right _ hx)))
theorem open_intl {H:Type} {enc:TypeId×Value→H} {P:Program} {W:World} {r:Reach} {b0:Nat} {t e:TypeId} {k:IntKind} {v:Value} {d:DataW H} {p:List MemPlace} (ht:P.underlying t=some (.slice e)) (he:P.underlying e=some (.int k)) (hc:P.cellsOf e=1)
  (hval:Value.okWide P W r b0 t v) (h:DataW.Trod enc P W 0 (fun _=>true) true t v d p):∃ l:List Int,∀ γ,Rep W (fun _=>False) 0 γ (.sl .lent (l.map (D.int k))) v:=by
 obtain ⟨a0,len,cap,rfl⟩:=okWide_slice ht hval;obtain ⟨fuel,hf⟩:=h;rcases open_ints ht he hc hf with ⟨h1,_⟩ | ⟨a,len',cap',zs,h1,h2,h3,h4,h5,h6,h7,h8⟩
 ·have h1:[Value.slice a0 len cap]=[Value.slice none 0 0]:=by simpa [Value.cells] using h1
  simp at h1;obtain ⟨rfl,rfl,rfl⟩:=h1
  exact ⟨[],fun γ=>.slE _ _ _ (by simp) (by simp) (by simp)⟩
 ·have h1:[Value.slice a0 len cap]=[Value.slice (some a) len' cap']:=by simpa [Value.cells] using h1
  simp at h1;obtain ⟨rfl,rfl,rfl⟩:=h1
  have h5:zs.length=cap:=by simpa using h5
  by_cases hl:len=0
  ·subst hl
   exact ⟨[],fun γ=>.slE _ _ _ (by simp) (by simp) (by simp)⟩
  ·obtain ⟨b,off,rfl,hcell⟩:=ints_at h7 (by omega)
   have hlen:((zs.take len).map (D.int k)).length=len:=by simp; omega
   refine ⟨zs.take len,fun γ=>?_⟩
   have hb:b < W.heap.size:=by
    rcases Nat.lt_or_ge b W.heap.size with h' | h'
    ·exact h'
    ·have:=hcell 0 (by omega)
     simp [World.cell?,Array.getElem?_eq_none h'] at this
   have:=Rep.sl (w:=W) (A:=fun _=>False) (N:=0) (γ:=γ) .lent ((zs.take len).map (D.int k)) b off 1 cap (fun i=>.int k (zs.getD i 0)) (by intro e; rw [e] at hlen; exact hl hlen.symm) (by simp) (by omega) (by simp) (fun h=>h) (by simp) hb (fun i d hd=>by
    rw [List.getElem?_map] at hd
    by_cases hi:i < len
    ·rw [List.getElem?_take_of_lt hi] at hd
     have hz:zs[i]? =some zs[i]:=List.getElem?_eq_getElem (by omega)
     rw [hz] at hd;simp at hd;rw [←hd,List.getD_eq_getElem?_getD,hz];exact .int _ _
    ·rw [List.getElem?_eq_none (by simp; omega)] at hd; cases hd) (fun i hi=>⟨rfl,fun j u hu=>by
    rw [hlen] at hi
    have hj:j=0:=by
     have:=(Array.getElem?_eq_some_iff.1 hu).1;simpa [Value.cells] using this
    subst hj
    have hu:Value.int k (zs.getD i 0)=u:=by simpa [Value.cells] using hu
    rw [←hu]
    simpa using hcell i (by omega)⟩)
   rw [hlen] at this;exact this
theorem row_post {H:Type} {enc:TypeId×Value→H} {P:Program} {f:Func} {s:ChangeSpec} {apart fresh handsOn again:Bool} {W W':World} {args:Array Value} {ds gs:List (DataW H)} {before:List MemPlace} {tb:TypeId}
  (hl:laidOutB P=true) (hr:(f.params.toList.all fun t=>P.readableRec t && decide (t < P.types.size))=true) (hrt:f.resultTypes=#[tb]) (hb:P.underlying tb=some .bool)
  (hW:DataW.Whole enc P f.params.toList s.vars apart W args.toList ds gs before) (hv:s.vars=[]) (hfn:(s.fn H (ds++gs)).results=[.lit (.bool true)]∧(s.fn H (ds++gs)).args=ds∧(s.fn H (ds++gs)).vars=[])
  (hbel:Below W.heap.size W W'):s.post enc P f apart fresh handsOn again W args (.bool true) W':=by
 have hW':=hW;obtain ⟨p,q,hA0,hV,rfl,hfz,hnd⟩:=hW
 have hq:q=[]:=by
  rw [hv] at hV;exact (trodVars_none hV).2
 subst hq
 have hlt:∀ x∈p,x.block < W.heap.size:=fun x hx=>by
  have:=hW'.lt x (by simpa using hx)
  simpa using this
 refine zvv (pa:=p) (pv:=[]) hW' (fun _ _ _=>?_) (fun sp hsp=>?_) (fun sp hsp=>?_) (by simp) hbel ?_
 ·rw [hfn.1,hrt];exact trodAll_cons_mk (shut_bool hb _) trodAll_mk0
 ·rw [hfn.2.1]
  exact zov hl hr hA0 hbel hlt (fun x hx=>hsp x (by simpa using hx))
 ·rw [hfn.2.2,hv];exact rfl
 ·exact ok_one hrt rfl (okWide_bool_mk hb _)
end Wf

namespace Wf
open Go Go.RowKit Go.ChangeShapes Go.WideShapes
end Wf

namespace Wf
open Go Go.RowKit
section
variable {R α β:Type}
@[congr] theorem zHS {b b':Bool} {x y:Option R} (h:b=b'):brK b x y=brK b' x y:=by rw [h]
@[congr] theorem zGw {x x':Option α} {f:α→Option R} (h:x=x'):zan x f=zan x' f:=by rw [h]
@[congr] theorem zHT {c c':Prop} [d:Decidable c] [d':Decidable c'] {x:Option R} (h:c=c'):sif c x=sif c' x:=by subst h; congr
@[congr] theorem zHo {n n':Int} {f:Int→Option R} (h:n=n'):letN n f=letN n' f:=by rw [h]
@[congr] theorem zHp {l l':List α} {i i':Nat} {f:α→Option R} (h:l=l') (h':i=i'):getK l i f=getK l' i' f:=by rw [h,h']
@[congr] theorem zHU {k:IntKind} {d d':D} {f:Int→Option R} (h:d=d'):asI k d f=asI k d' f:=by rw [h]
@[congr] theorem zHV {d d':D} {f:Bool→Option R} (h:d=d'):asB d f=asB d' f:=by rw [h]
@[congr] theorem zHW {d d':D} {f:ByteArray→Option R} (h:d=d'):asS d f=asS d' f:=by rw [h]
@[congr] theorem zHq {d d':D} {f:Tag→List D→Option R} (h:d=d'):asSl d f=asSl d' f:=by rw [h]
@[congr] theorem zGx {d d':D} {f:List D→Option R} (h:d=d'):zbe d f=zbe d' f:=by rw [h]
@[congr] theorem zFw {d d':D} {f:List D→Option R} (h:d=d'):zmX d f=zmX d' f:=by rw [h]
@[congr] theorem zGy {d d':D} {f:List D→Option R} (h:d=d'):asAgg d f=asAgg d' f:=by rw [h]
@[congr] theorem zGz {d d':D} {f:List D→Option R} (h:d=d'):zdP d f=zdP d' f:=by rw [h]
@[congr] theorem zHr {d d':D} {f:D→Option R} (h:d=d'):asAt d f=asAt d' f:=by rw [h]
@[congr] theorem zGA {d d':List D} {f:D→Option R} (h:d=d'):zB5 d f=zB5 d' f:=by rw [h]
@[congr] theorem zHX {k:Nat} {d d':D} {f:Nat→Option R} (h:d=d'):asH k d f=asH k d' f:=by rw [h]
@[congr] theorem zGB {d d':D} {f:Bool→Option R} (h:d=d'):zpv d f=zpv d' f:=by rw [h]
@[congr] theorem zFx {d d':D} {f:Bool→Option R} (h:d=d'):zr4 d f=zr4 d' f:=by rw [h]
@[congr] theorem zFy {kk:MK} {d d':D} {f:List (Int×D)→Option R} (h:d=d'):ziS kk d f=ziS kk d' f:=by rw [h]
@[congr] theorem zGC {kk:MK} {d d':D} {f:List (Int×D)→Option R} (h:d=d'):zr5 kk d f=zr5 kk d' f:=by rw [h]
@[congr] theorem zHs {T T':Tb} {f:Tb→Option R} (h:T=T'):letT T f=letT T' f:=by rw [h]
@[congr] theorem zGD {l l':List α} {f:α→List α→Option R} (h:l=l'):zeE l f=zeE l' f:=by rw [h]
@[congr] theorem zHt {l l':List α} {x:Option R} (h:l=l'):nilK l x=nilK l' x:=by rw [h]
@[congr] theorem zDN {ls:List Lf} {d d':List D} {f:LfT ls→Option R} (h:d=d'):zaz ls d f=zaz ls d' f:=by rw [h]
@[congr] theorem zGE {B:(α→Option R)→α→Option R} {a a':α} (h:a=a'):zb3 B a=zb3 B a':=by rw [h]
end
section
variable {R α:Type}
@[simp] theorem zIZ (b:Bool) (x y:Option R):brK (!b) x y=brK b y x:=by cases b<;>rfl
@[simp] theorem ztv {p:Prop} [Decidable p] (h:p) (x y:Option R):brK (decide p) x y=x:=by simp [h]
@[simp] theorem zsr {p:Prop} [Decidable p] (h:¬ p) (x y:Option R):brK (decide p) x y=y:=by simp [h]
@[simp] theorem zFz {a b:Int} (h:a=b) (x y:Option R):brK (a == b) x y=x:=by simp [h]
@[simp] theorem zFA {a b:Int} (h:¬ a=b) (x y:Option R):brK (a == b) x y=y:=by
 have:(a == b)=false:=by simpa using h
 rw [this]; rfl
@[simp] theorem zFB {a b:Int} (h:¬ a=b) (x y:Option R):brK (a != b) x y=x:=by
 have:(a != b)=true:=by simpa using h
 rw [this]; rfl
@[simp] theorem zlb {a b:Int} (h:a=b) (x y:Option R):brK (a != b) x y=y:=by simp [h]
theorem zxo {n:Int} (h0: -9223372036854775808≤n) (h1:n < 9223372036854775808) (f:Int→Option R):letN (IntKind.wrap .i64 n) f=f n:=by rw [zah h0 h1]; rfl
@[simp] theorem zIE (x:Option R):sif True x=x:=zaa trivial x
@[simp] theorem zHY (x y:Option R):brK (decide True) x y=x:=rfl
@[simp] theorem zHu (x y:Option R):brK (decide False) x y=y:=rfl
end
@[simp] theorem zDO (a b:List D):zdC (a++b)=(zdC a && zdC b):=by simp [zdC]
@[simp] theorem zFC (n:Nat) (a b:List D):zeC n (a++b)=(zeC n a && zeC n b):=by simp [zeC]
@[simp] theorem zEm (n:Nat) (a b:List D):zgm n (a++b)=(zgm n a && zgm n b):=by simp [zgm]
@[simp] theorem zFD (a b:List D):zil (a++b)=(zil a && zil b):=by simp [zil]
theorem zvD {T:Tb} {i o:Nat} {cs:List D} (h:T[i]? =some cs) (ho:o < cs.length) (x y:D):za8 (setT T i o y) i o [x]=T.set i (cs.take o++[x]++cs.drop (o+1)):=by
 rw [zyE h,zef (zmh h _),List.set_set];congr 1;simp only [List.take_set,List.drop_set]
 rw [List.set_eq_of_length_le (by simp; omega),show o+[x].length=o+1 from rfl]
 simp
theorem zCu {R:Type} {T:Tb} {i o:Nat} {cs:List D} (h:T[i]? =some cs) (y:D) (f:List D→Option R):getK (setT T i o y) i f=f (cs.set o y):=by
 rw [zyE h]; exact zal (zmh h _) f
end Wf

namespace Wf
open Go Go.RowKit
abbrev xor8 (a b:Int):Int:=bits .xor .u8 a b
theorem zss (n:Int):0≤IntKind.u8.wrap n∧IntKind.u8.wrap n < 256:=by
 have e:IntKind.u8.wrap n=n % 256:=by simp [IntKind.wrap,IntKind.bits,IntKind.signed]
 rw [e]; omega
theorem zyF {n:Int} (h0:0≤n) (h1:n < 256):IntKind.u8.wrap n=n:=by
 have e:IntKind.u8.wrap n=n % 256:=by simp [IntKind.wrap,IntKind.bits,IntKind.signed]
 rw [e]; omega
theorem zEn {n:Int} (h0:0≤n) (h1:n < 18446744073709551616):IntKind.u64.wrap n=n:=by
 have e:IntKind.u64.wrap n=n % 18446744073709551616:=by simp [IntKind.wrap,IntKind.bits,IntKind.signed]
 rw [e]; omega
theorem zd4 (m n:Nat) (hm:m < 256) (hn:n < 256):xor8 m n=((m ^^^ n:Nat):Int):=by
 have h:m ^^^ n < 2 ^ 8:=Nat.xor_lt_two_pow (by omega) (by omega)
 have e:((BitVec.ofInt 8 (m:Int)) ^^^ (BitVec.ofInt 8 (n:Int))).toNat=m ^^^ n:=by
  rw [BitVec.toNat_xor];simp [Nat.mod_eq_of_lt hm,Nat.mod_eq_of_lt hn]
 show IntKind.u8.wrap (((BitVec.ofInt 8 (m:Int)) ^^^ (BitVec.ofInt 8 (n:Int))).toNat:Int)=_;rw [e]
 exact zyF (by omega) (by omega)
theorem zpE (a b:Int):0≤xor8 a b∧xor8 a b < 256:=zss _
def Byt (a:Int):Prop:=0≤a∧a < 256
theorem zeZ {a:Int} (h:Byt a):∃ m:Nat,m < 256∧a=m:=⟨a.toNat,by have:=h.1; have:=h.2; omega,by have:=h.1; omega⟩
theorem zHZ {m:Nat} (h:m < 256):Byt (m:Int):=⟨by omega,by omega⟩
theorem zow {m n:Nat} (hm:m < 256) (hn:n < 256):m ^^^ n < 256:=Nat.xor_lt_two_pow (n:=8) (by omega) (by omega)
theorem zox (a b:Int):Byt (xor8 a b):=zpE a b
theorem zoy {a b:Int} (ha:Byt a) (hb:Byt b):xor8 a b=xor8 b a:=by
 obtain ⟨m,hm,rfl⟩:=zeZ ha; obtain ⟨n,hn,rfl⟩:=zeZ hb;rw [zd4 _ _ hm hn,zd4 _ _ hn hm,Nat.xor_comm]
theorem zhd {a b c:Int} (ha:Byt a) (hb:Byt b) (hc:Byt c):xor8 (xor8 a b) c=xor8 a (xor8 b c):=by
 obtain ⟨m,hm,rfl⟩:=zeZ ha; obtain ⟨n,hn,rfl⟩:=zeZ hb; obtain ⟨k,hk,rfl⟩:=zeZ hc;rw [zd4 _ _ hm hn,zd4 _ _ hn hk,zd4 _ _ (zow hm hn) hk,zd4 _ _ hm (zow hn hk),Nat.xor_assoc]
theorem zxp {a:Int} (ha:Byt a):xor8 a a=0:=by
 obtain ⟨m,hm,rfl⟩:=zeZ ha;rw [zd4 _ _ hm hm,Nat.xor_self]; rfl
theorem zst {a:Int} (ha:Byt a):xor8 a 0=a:=by
 obtain ⟨m,hm,rfl⟩:=zeZ ha
 have:=zd4 m 0 hm (by omega)
 rw [Nat.xor_zero] at this; exact this
theorem zCv {a:Int} (ha:Byt a):xor8 0 a=a:=by rw [zoy ⟨by omega,by omega⟩ ha,zst ha]
theorem zvE:Byt 0:=⟨by omega,by omega⟩
def dbl (a:Int):Int:=if 128≤a then xor8 (IntKind.u8.wrap (a*2)) 29 else IntKind.u8.wrap (a*2)
def mulA:Nat→Int→Int→Int→Int
 | 0,_,_,o=>o
 | n+1,a,b,o=>mulA n (dbl a) (b / 2) (if bits .and .u8 b 1=1 then xor8 o a else o)
theorem zCw (n:Nat) (a o:Int):mulA n a 0 o=o:=by
 induction n generalizing a with
 | zero=>rfl
 | succ n ih=>
  show mulA n (dbl a) (0 / 2) (if bits .and .u8 0 1=1 then xor8 o a else o)=o
  rw [show (0:Int) / 2=0 from rfl,if_neg (by decide),ih]
def mul8 (a b:Int):Int:=mulA 8 a b 0
theorem zCx (a:Int):0≤dbl a∧dbl a < 256:=by unfold dbl; split<;>exact zss _
theorem zuz:∀ (n:Nat) (a b o:Int),(0≤o∧o < 256)→0≤mulA n a b o∧mulA n a b o < 256
 | 0,_,_,_,h=>h
 | n+1,a,b,o,h=>zuz n _ _ _ (by split; exact zpE _ _; exact h)
theorem zA2 (a b:Int):0≤mul8 a b∧mul8 a b < 256:=zuz _ _ _ _ (by omega)
theorem zgg (a b:Int):Byt (mul8 a b):=zA2 a b
def dblN (a:Nat):Nat:=if 128≤a then (a*2 % 256) ^^^ 29 else a*2 % 256
theorem zlc {a:Nat} (h:a < 256):dblN a < 256:=by
 unfold dblN; split
 ·exact zow (by omega) (by omega)
 ·omega
theorem zyG {a:Nat} (h:a < 256):dbl a=(dblN a:Nat):=by
 unfold dbl dblN
 have e:IntKind.u8.wrap ((a:Int)*2)=((a*2 % 256:Nat):Int):=by
  simp [IntKind.wrap,IntKind.bits,IntKind.signed]
 rw [e]
 by_cases h1:128≤a
 ·rw [if_pos (by omega),if_pos h1]
  exact zd4 _ 29 (by omega) (by omega)
 ·rw [if_neg (by omega),if_neg h1]
def mulN:Nat→Nat→Nat→Nat→Nat
 | 0,_,_,o=>o
 | n+1,a,b,o=>mulN n (dblN a) (b / 2) (if b % 2=1 then o ^^^ a else o)
theorem and1 (b:Nat) (hb:b < 256):bits .and .u8 (b:Int) 1=((b % 2:Nat):Int):=by
 have e:((BitVec.ofInt 8 (b:Int)) &&& (BitVec.ofInt 8 1)).toNat=b % 2:=by
  rw [BitVec.toNat_and]
  have:(BitVec.ofInt 8 (1:Int)).toNat=1:=by decide
  rw [this,Nat.and_one_is_mod];simp [Nat.mod_eq_of_lt hb]
 show IntKind.u8.wrap (((BitVec.ofInt 8 (b:Int)) &&& (BitVec.ofInt 8 (1:Int))).toNat:Int)=_;rw [e]
 exact zyF (by omega) (by omega)
theorem zvF:∀ (n:Nat) {a b o:Nat},a < 256→b < 256→o < 256→mulA n a b o=(mulN n a b o:Nat)∧mulN n a b o < 256
 | 0,_,_,_,_,_,ho=>⟨rfl,ho⟩
 | n+1,a,b,o,ha,hb,ho=>by
  show mulA n (dbl a) ((b:Int) / 2) (if bits .and .u8 (b:Int) 1=1 then xor8 o a else o)=(mulN n (dblN a) (b / 2) (if b % 2=1 then o ^^^ a else o):Nat)∧_
  rw [zyG ha,and1 b hb,show (b:Int) / 2=((b / 2:Nat):Int) by omega]
  by_cases h1:b % 2=1
  ·have:=zvF n (zlc ha) (show b / 2 < 256 by omega) (zow ho ha)
   rw [if_pos (by omega),if_pos h1,zd4 _ _ ho ha]
   exact ⟨this.1,by show mulN n (dblN a) (b / 2) (if b % 2=1 then o ^^^ a else o) < 256; rw [if_pos h1]; exact this.2⟩
  ·have:=zvF n (zlc ha) (show b / 2 < 256 by omega) ho
   rw [if_neg (by omega),if_neg h1]
   exact ⟨this.1,by show mulN n (dblN a) (b / 2) (if b % 2=1 then o ^^^ a else o) < 256; rw [if_neg h1]; exact this.2⟩
def mN (a b:Nat):Nat:=mulN 8 a b 0
theorem zey {a b:Nat} (ha:a < 256) (hb:b < 256):mul8 a b=(mN a b:Nat)∧mN a b < 256:=zvF 8 (o:=0) ha hb (by omega)
def dV (v:BitVec 8):BitVec 8:=(v <<< 1) ^^^ (if v.msb then 29#8 else 0#8)
theorem zH0 (u v:BitVec 8):dV (u ^^^ v)=dV u ^^^ dV v:=by
 unfold dV;rw [BitVec.shiftLeft_xor_distrib,BitVec.msb_xor]
 have e:(if (u.msb ^^ v.msb)=true then 29#8 else 0#8)=(if u.msb=true then 29#8 else 0#8) ^^^ (if v.msb=true then 29#8 else 0#8):=by
  cases u.msb<;>cases v.msb<;>decide
 rw [e]
 ac_rfl
theorem zCy:∀ a < 256,dblN a=(dV (BitVec.ofNat 8 a)).toNat:=by decide+kernel
theorem zxq (a:Nat) (ha:a < 256) (b:Nat) (hb:b < 256):dblN (a ^^^ b)=dblN a ^^^ dblN b:=by
 have e:BitVec.ofNat 8 (a ^^^ b)=BitVec.ofNat 8 a ^^^ BitVec.ofNat 8 b:=by
  apply BitVec.eq_of_toNat_eq;rw [BitVec.toNat_xor];simp [Nat.mod_eq_of_lt ha,Nat.mod_eq_of_lt hb,Nat.mod_eq_of_lt (zow ha hb)]
 rw [zCy _ (zow ha hb),zCy _ ha,zCy _ hb,e,zH0,BitVec.toNat_xor]
theorem zvG:∀ (n:Nat) {a a' b o o':Nat},a < 256→a' < 256→mulN n (a ^^^ a') b (o ^^^ o')=mulN n a b o ^^^ mulN n a' b o'
 | 0,_,_,_,_,_,_,_=>rfl
 | n+1,a,a',b,o,o',ha,ha'=>by
  show mulN n (dblN (a ^^^ a')) (b / 2) (if b % 2=1 then (o ^^^ o') ^^^ (a ^^^ a') else o ^^^ o')=mulN n (dblN a) (b / 2) (if b % 2=1 then o ^^^ a else o) ^^^ mulN n (dblN a') (b / 2) (if b % 2=1 then o' ^^^ a' else o')
  rw [zxq a ha a' ha']
  by_cases h1:b % 2=1
  ·rw [if_pos h1,if_pos h1,if_pos h1,show (o ^^^ o') ^^^ (a ^^^ a')=(o ^^^ a) ^^^ (o' ^^^ a') by
    rw [Nat.xor_assoc,Nat.xor_assoc,←Nat.xor_assoc o' a a',Nat.xor_comm o' a,Nat.xor_assoc a o' a']]
   exact zvG n (zlc ha) (zlc ha')
  ·rw [if_neg h1,if_neg h1,if_neg h1];exact zvG n (zlc ha) (zlc ha')
theorem zH1 {a a':Nat} (b:Nat) (ha:a < 256) (ha':a' < 256):mN (a ^^^ a') b=mN a b ^^^ mN a' b:=zvG 8 (o:=0) (o':=0) ha ha'
theorem zEo {a a' b:Int} (ha:Byt a) (ha':Byt a') (hb:Byt b):mul8 (xor8 a a') b=xor8 (mul8 a b) (mul8 a' b):=by
 obtain ⟨m,hm,rfl⟩:=zeZ ha; obtain ⟨n,hn,rfl⟩:=zeZ ha'; obtain ⟨k,hk,rfl⟩:=zeZ hb;rw [zd4 _ _ hm hn,(zey (zow hm hn) hk).1,(zey hm hk).1,(zey hn hk).1,zd4 _ _ (zey hm hk).2 (zey hn hk).2,zH1 k hm hn]
def pow8:Nat→Int
 | 0=>1
 | k+1=>dbl (pow8 k)
theorem ziX (k:Nat):0≤pow8 k∧pow8 k < 256:=by
 cases k with
 | zero=>exact ⟨by decide,by decide⟩
 | succ k=>exact zCx _
theorem zzZ (k:Nat):Byt (pow8 k):=ziX k
def powN:Nat→Nat
 | 0=>1
 | k+1=>dblN (powN k)
theorem zin:∀ k,powN k < 256
 | 0=>by decide
 | k+1=>zlc (zin k)
theorem zmi:∀ k,pow8 k=(powN k:Nat)
 | 0=>rfl
 | k+1=>by show dbl (pow8 k)=_; rw [zmi k,zyG (zin k)]; rfl
def logF (a:Nat):Nat→Nat→Nat→Nat
 | 0,_,_=>255
 | f+1,x,n=>if x=a then n else logF a f (dblN x) (n+1)
def logN (a:Nat):Nat:=logF a 255 1 0
def invN (a:Nat):Nat:=if a=0 then 0 else powN ((255 - logN a) % 255)
theorem zyH:∀ k < 6,∀ x < 256,mN (mN x (powN k)) (invN (powN k))=x:=by decide+kernel
theorem zyI:∀ k < 6,∀ j < k,∀ x < 256,mN (mN x (powN j) ^^^ mN x (powN k)) (invN (powN j ^^^ powN k))=x:=by decide+kernel
theorem zyJ:∀ x < 256,mN x 1=x:=by decide+kernel
theorem zGF:∀ a < 256,a≠0→logN a < 255∧powN (logN a)=a:=by decide+kernel
theorem zyK (a:Nat):invN a < 256:=by unfold invN; split; omega; exact zin _
theorem zmZ:∀ (n:Nat) (b:Int),mulA n 0 b 0=0
 | 0,_=>rfl
 | n+1,b=>by
  show mulA n (dbl 0) (b / 2) (if bits .and .u8 b 1=1 then xor8 0 0 else 0)=0
  rw [show dbl 0=0 by decide,show xor8 0 0=0 by decide,ite_self,zmZ n]
theorem zsu (b:Int):mul8 0 b=0:=zmZ 8 b
theorem zrj {a:Int} (h:Byt a):mul8 a 1=a:=by
 obtain ⟨m,hm,rfl⟩:=zeZ h
 have:=(zey hm (show 1 < 256 by omega)).1
 rw [zyJ m hm] at this; exact this
theorem zGG {k:Nat} (hk:k < 6) {x:Int} (h:Byt x):mul8 (mul8 x (pow8 k)) ((invN (pow8 k).toNat:Nat):Int)=x:=by
 obtain ⟨m,hm,rfl⟩:=zeZ h;rw [zmi,Int.toNat_natCast,(zey hm (zin k)).1,(zey (zey hm (zin k)).2 (zyK _)).1,zyH k hk m hm]
theorem zGH {j k:Nat} (hk:k < 6) (hj:j < k) {x:Int} (h:Byt x):mul8 (xor8 (mul8 x (pow8 j)) (mul8 x (pow8 k))) ((invN (xor8 (pow8 j) (pow8 k)).toNat:Nat):Int)=x:=by
 obtain ⟨m,hm,rfl⟩:=zeZ h;have h1:=zey hm (zin j);have h2:=zey hm (zin k);rw [zmi,zmi,zd4 _ _ (zin j) (zin k),Int.toNat_natCast,h1.1,h2.1,zd4 _ _ h1.2 h2.2,(zey (zow h1.2 h2.2) (zyK _)).1,zyI k hk j hj m hm]
end Wf

namespace Wf
open Go Go.RowKit
set_option linter.unusedSimpArgs false
set_option linter.unusedVariables false
structure Sec (l:List Int):Prop where
 len:l.length=32
 byt:∀ n∈l,0≤n∧n < 256
def zez:List Int:=List.replicate 32 0
theorem zxr:Sec zez:=⟨by simp [zez],fun n h=>by rw [(List.mem_replicate.1 h).2]; omega⟩
theorem zCz {x:List Int} (h:Sec x):x≠[]:=by intro e; have:=h.len; rw [e] at this; cases this
def getB (l:List Int) (i:Nat):Int:=l.getD i 0
theorem zvH {l:List Int} {i:Nat} {x:Int} (h:l[i]? =some x):getB l i=x:=by simp [getB,List.getD_eq_getElem?_getD,h]
theorem znq {l:List Int} {i:Nat} (h:i < l.length):l[i]? =some (getB l i):=by simp [getB,List.getD_eq_getElem?_getD,h]
theorem zdA {l:List Int} (h:Sec l) (i:Nat):Byt (getB l i):=by
 unfold getB;rw [List.getD_eq_getElem?_getD]
 cases e:l[i]? with
 | none=>exact zvE
 | some x=>exact h.byt x (List.mem_of_getElem? e)
theorem zEp {a b:List Int} (hl:a.length=b.length) (h:∀ i,i < a.length→getB a i=getB b i):a=b:=by
 apply List.ext_getElem?;intro i
 by_cases hi:i < a.length
 ·rw [znq hi,znq (by omega),h i hi]
 ·rw [List.getElem?_eq_none (by omega),List.getElem?_eq_none (by omega)]
theorem zsv (i:Nat):getB zez i=0:=by
 unfold getB zez;rw [List.getD_eq_getElem?_getD,List.getElem?_replicate];split<;>rfl
theorem zFE {l:List Int} (hl:l.length=32) (h:∀ i,i < 32→Byt (getB l i)):Sec l:=⟨hl,fun n hn=>by
 obtain ⟨i,hi,rfl⟩:=List.mem_iff_getElem.1 hn
 have:=h i (by omega)
 rw [zvH (List.getElem?_eq_getElem hi)] at this;exact this⟩
theorem x1 {s x:Int} (hs:Byt s) (hx:Byt x):xor8 (xor8 s x) s=x:=by
 rw [zoy hs hx,zhd hx hs hs,zxp hs,zst hx]
theorem x3 {x y:Int} (hx:Byt x) (hy:Byt y):xor8 (xor8 x y) x=y:=x1 hx hy
theorem x2 {s x y:Int} (hs:Byt s) (hx:Byt x) (hy:Byt y):xor8 (xor8 (xor8 s x) y) s=xor8 x y:=by
 rw [zhd hs hx hy,x1 hs (zox _ _)]
theorem x4 {u v w:Int} (hu:Byt u) (hv:Byt v) (hw:Byt w):xor8 (xor8 u v) (xor8 w v)=xor8 u w:=by
 rw [zhd hu hv (zox _ _),zoy hw hv,←zhd hv hv hw,zxp hv,zCv hw]
theorem x5 {s x y:Int} (hs:Byt s) (hx:Byt x) (hy:Byt y):xor8 (xor8 s x) y=xor8 (xor8 s y) x:=by
 rw [zhd hs hx hy,zoy hx hy,←zhd hs hy hx]
def addL (a b:List Int):List Int:=if a.length=b.length then List.zipWith xor8 a b else []
def zqE (a:List Int) (f:Int):List Int:=a.map (mul8 · f)
theorem zpF {a b:List Int} (h:a.length=b.length):(addL a b).length=a.length:=by simp [addL,h]
theorem zyL {a b:List Int} (h:a.length=b.length) {i:Nat} (hi:i < a.length):getB (addL a b) i=xor8 (getB a i) (getB b i):=by
 refine zvH ?_;unfold addL
 rw [if_pos h,List.getElem?_zipWith,znq hi,znq (show i < b.length by omega)]
theorem zld (a:List Int) (f:Int):(zqE a f).length=a.length:=by simp [zqE]
theorem zvI {a:List Int} {f:Int} {i:Nat} (hi:i < a.length):getB (zqE a f) i=mul8 (getB a i) f:=by
 refine zvH ?_;simp [zqE,znq hi]
theorem zyM {a b:List Int} (ha:Sec a) (hb:Sec b):Sec (addL a b):=
 zFE (by rw [zpF (by rw [ha.len,hb.len]),ha.len]) fun i hi=>by rw [zyL (by rw [ha.len,hb.len]) (by rw [ha.len]; exact hi)]; exact zox _ _
theorem zCA {a:List Int} (f:Int) (ha:Sec a):Sec (zqE a f):=
 zFE (by rw [zld,ha.len]) fun i hi=>by rw [zvI (by rw [ha.len]; exact hi)]; exact zgg _ _
def sumK (f:Nat→Int) (n:Nat) (ls:List (List Int)):Nat→List Int
 | 0=>List.replicate n 0
 | k+1=>List.zipWith xor8 (sumK f n ls k) ((ls.getD k []).map (mul8 · (f k)))
theorem zc3 {ls:List (List Int)} {k:Nat} (h:k < ls.length):ls.getD k []∈ls:=by
 rw [List.getD_eq_getElem?_getD,List.getElem?_eq_getElem h]; exact List.getElem_mem h
theorem zoz {f:Nat→Int} {n:Nat} {ls:List (List Int)} (h:∀ l∈ls,l.length=n):∀ {k:Nat},k≤ls.length→(sumK f n ls k).length=n
 | 0,_=>by simp [sumK]
 | k+1,hk=>by
  simp only [sumK,List.length_zipWith,List.length_map,zoz h (show k≤ls.length by omega),h _ (zc3 (show k < ls.length by omega))]
  omega
theorem zEq {f:Nat→Int} {n:Nat} {ls:List (List Int)}:∀ {k:Nat},∀ x∈sumK f n ls k,0≤x∧x < 256
 | 0,x,hx=>by rw [(List.mem_replicate.1 hx).2]; omega
 | k+1,x,hx=>by
  simp only [sumK] at hx;rw [List.mem_iff_getElem?] at hx;obtain ⟨j,hj⟩:=hx;rw [List.getElem?_zipWith] at hj;split at hj
  ·injection hj with hj; subst hj; exact zpE _ _
  ·cases hj
theorem zrk {f:Nat→Int} {ls:List (List Int)} (h:∀ l∈ls,l.length=32) {k:Nat} (hk:k≤ls.length):Sec (sumK f 32 ls k):=⟨zoz h hk,zEq⟩
def sumP (n:Nat) (ls:List (List Int)):List Int:=sumK (fun _=>1) n ls ls.length
def sumQ (n:Nat) (ls:List (List Int)):List Int:=sumK pow8 n ls ls.length
theorem zz0 {ls:List (List Int)} (h:∀ l∈ls,Sec l):Sec (sumP 32 ls):=zrk (fun l hl=>(h l hl).len) (Nat.le_refl _)
theorem zz1 {ls:List (List Int)} (h:∀ l∈ls,Sec l):Sec (sumQ 32 ls):=zrk (fun l hl=>(h l hl).len) (Nat.le_refl _)
def xsum (g:Nat→Int):Nat→Int
 | 0=>0
 | k+1=>xor8 (xsum g k) (g k)
theorem zz2 (g:Nat→Int):∀ k,Byt (xsum g k)
 | 0=>zvE
 | k+1=>zox _ _
theorem zxs {f:Nat→Int} {n:Nat} {ls:List (List Int)} (h:∀ l∈ls,l.length=n) {i:Nat} (hi:i < n):∀ {k:Nat},k≤ls.length→getB (sumK f n ls k) i=xsum (fun j=>mul8 (getB (ls.getD j []) i) (f j)) k
 | 0,_=>by simp [sumK,getB,List.getD_eq_getElem?_getD,hi,xsum]
 | k+1,hk=>by
  refine zvH ?_
  have h1:=zxs (f:=f) h hi (show k≤ls.length by omega)
  have h2:i < (sumK f n ls k).length:=by rw [zoz h (by omega)]; exact hi
  have h3:i < (ls.getD k []).length:=by rw [h _ (zc3 (by omega))]; exact hi
  simp only [sumK];rw [List.getElem?_zipWith,znq h2,h1,List.getElem?_map,znq h3];rfl
theorem zrl {g g':Nat→Int} {j:Nat} (hg:∀ i,Byt (g i)) (hz:g' j=0) (he:∀ i,i≠j→g' i=g i):∀ {k:Nat},j < k→xsum g k=xor8 (xsum g' k) (g j)
 | 0,h=>absurd h (Nat.not_lt_zero _)
 | k+1,h=>by
  by_cases e:k=j
  ·subst e
   have:∀ {m:Nat},m≤k→xsum g' m=xsum g m:=by
    intro m hm
    induction m with
    | zero=>rfl
    | succ m ih=>show xor8 (xsum g' m) (g' m)=xor8 (xsum g m) (g m); rw [ih (by omega),he m (by omega)]
   show xor8 (xsum g k) (g k)=xor8 (xor8 (xsum g' k) (g' k)) (g k);rw [this (Nat.le_refl _),hz,zst (zz2 _ _)]
  ·have hg':Byt (g' k):=by rw [he k e]; exact hg k
   show xor8 (xsum g k) (g k)=xor8 (xor8 (xsum g' k) (g' k)) (g j)
   rw [zrl hg hz he (show j < k by omega),he k e,x5 (zz2 _ _) (hg j) (hg k)]
def zdv (ls:List (List Int)):List Nat:=(List.range ls.length).filter fun i=>(ls.getD i []).isEmpty
def fitS (n:Int) (l:List Int):Bool:=l.isEmpty || decide ((l.length:Int)=n)
def zle (n:Nat) (l:List Int):List Int:=l.take n++(List.replicate n 0).drop (l.take n).length
theorem ziY (n:Nat) (l:List Int):(zle n l).length=n:=by simp [zle]; omega
theorem zyN {n:Nat} {l:List Int} (h:l.length=n):zle n l=l:=by unfold zle; rw [List.take_of_length_le (by omega),List.drop_of_length_le (by simp [h])]; simp
theorem zCB (n:Nat):zle n []=List.replicate n 0:=by simp [zle]
def zcN (ls:List (List Int)):List (List Int):=ls.map (zle 32)
def inv8 (a:Int):Int:=(invN a.toNat:Nat)
theorem zz3 (a:Int):Byt (inv8 a):=zHZ (zyK _)
def byQ (q:List Int) (ls:List (List Int)) (k:Nat):List Int:=zqE (addL q (sumQ 32 ls)) (inv8 (pow8 k))
def twoX (p q:List Int) (ls:List (List Int)) (j k:Nat):List Int:=
 zqE (addL (addL q (sumQ 32 ls)) (zqE (addL p (sumP 32 ls)) (pow8 k))) (inv8 (xor8 (pow8 j) (pow8 k)))
def twoY (p q:List Int) (ls:List (List Int)) (j k:Nat):List Int:=addL (addL p (sumP 32 ls)) (twoX p q ls j k)
def zoA (p q:List Int) (ls:List (List Int)):Option (List (List Int)):=
 if ls.length < 1∨8 < ls.length∨ls.all (fitS 32)=false∨[p,q].all (fitS 32)=false then none
 else if 2 < (zdv ls).length+(zdv [p,q]).length then none
 else match zdv ls with
  | [j,k]=>some (((zcN ls).set j (twoX p q (zcN ls) j k)).set k (twoY p q (zcN ls) j k))
  | [j]=>if 0 < p.length then some ((zcN ls).set j (addL p (sumP 32 (zcN ls)))) else some ((zcN ls).set j (byQ q (zcN ls) j))
  | _=>some (zcN ls)
theorem zyO (p q:List Int):(zdv [p,q]).length=(if p=[] then 1 else 0)+(if q=[] then 1 else 0):=by
 cases p<;>cases q<;>rfl
theorem zeA {ls:List (List Int)} {i:Nat}:i∈zdv ls↔i < ls.length∧ls.getD i []=[]:=by
 unfold zdv;rw [List.mem_filter,List.mem_range,List.isEmpty_iff]
theorem znr (ls:List (List Int)):(zdv ls).Pairwise (· < ·):=List.Pairwise.filter _ (List.pairwise_lt_range)
end Wf

namespace Wf
open Go Go.RowKit
set_option linter.unusedSimpArgs false
set_option linter.unusedVariables false
set_option linter.unusedSectionVars false
theorem zEr {ls:List (List Int)} {k:Nat} (hk:k < ls.length):(zcN ls)[k]? =some (zle 32 (ls.getD k [])):=by
 unfold zcN;rw [List.getElem?_map,List.getElem?_eq_getElem hk];simp [List.getD_eq_getElem?_getD,List.getElem?_eq_getElem hk]
theorem zda (ls:List (List Int)):(zcN ls).length=ls.length:=by simp [zcN]
theorem zI0 {a b:List (List Int)} (hl:a.length=b.length) (h:∀ i,i < a.length→a.getD i []=b.getD i []):a=b:=by
 apply List.ext_getElem?;intro i
 by_cases hi:i < a.length
 ·have:=h i hi
  simp only [List.getD_eq_getElem?_getD,List.getElem?_eq_getElem hi,List.getElem?_eq_getElem (show i < b.length by omega)] at this ⊢
  simpa using this
 ·rw [List.getElem?_eq_none (by omega),List.getElem?_eq_none (by omega)]
structure Holes (ps ls:List (List Int)):Prop where
 len:ps.length=ls.length
 or:∀ i,i < ls.length→ps.getD i []=[]∨ps.getD i []=ls.getD i []
section
variable {ps ls:List (List Int)} (h:Holes ps ls) (hs:∀ l∈ls,Sec l)
include h hs
theorem zh9 {i:Nat} (hi:i < ls.length):(zcN ps).getD i []=if i∈zdv ps then zez else ls.getD i []:=by
 rw [List.getD_eq_getElem?_getD,zEr (by rw [h.len]; exact hi)]
 by_cases hm:i∈zdv ps
 ·rw [if_pos hm,(zeA.1 hm).2,zCB]; rfl
 ·rw [if_neg hm];rcases h.or i hi with e | e
  ·exact absurd (zeA.2 ⟨by rw [h.len]; exact hi,e⟩) hm
  ·rw [e,zyN (hs _ (zc3 hi)).len]; rfl
theorem zvJ:∀ l∈zcN ps,l.length=32:=by
 intro l hl;unfold zcN at hl;obtain ⟨y,_,rfl⟩:=List.mem_map.1 hl;exact ziY 32 y
theorem zCC:∀ l∈ls,l.length=32:=fun l hl=>(hs l hl).len
theorem zCD (f:Nat→Int) {j:Nat} (hm:zdv ps=[j]) {i:Nat} (hi:i < 32):
  getB (sumK f 32 ls ls.length) i=xor8 (getB (sumK f 32 (zcN ps) (zcN ps).length) i) (mul8 (getB (ls.getD j []) i) (f j)):=by
 have hj:=zeA.1 (show j∈zdv ps by rw [hm]; exact List.mem_cons_self ..)
 rw [zxs (zCC h hs) hi (Nat.le_refl _),zxs (zvJ h hs) hi (Nat.le_refl _),zda,h.len]
 refine zrl (fun _=>zgg _ _) ?_ ?_ (by have:=hj.1; rw [h.len] at this; exact this)
 ·try dsimp only
  rw [zh9 h hs (by rw [←h.len]; exact hj.1),if_pos (by rw [hm]; exact List.mem_cons_self ..),zsv]
  exact zsu _
 ·intro k hk
  try dsimp only
  by_cases hl:k < ls.length
  ·rw [zh9 h hs hl,if_neg (by rw [hm]; simpa using hk)]
  ·have e1:(zcN ps).getD k []=[]:=by rw [List.getD_eq_getElem?_getD,List.getElem?_eq_none (by rw [zda,h.len]; omega)]; rfl
   have e2:ls.getD k []=[]:=by rw [List.getD_eq_getElem?_getD,List.getElem?_eq_none (by omega)]; rfl
   rw [e1,e2]
theorem zCE (f:Nat→Int) {j k:Nat} (hjk:j≠k) (hm:zdv ps=[j,k]) {i:Nat} (hi:i < 32):
  getB (sumK f 32 ls ls.length) i=xor8 (xor8 (getB (sumK f 32 (zcN ps) (zcN ps).length) i) (mul8 (getB (ls.getD j []) i) (f j))) (mul8 (getB (ls.getD k []) i) (f k)):=by
 have hj:=zeA.1 (show j∈zdv ps by rw [hm]; simp)
 have hk:=zeA.1 (show k∈zdv ps by rw [hm]; simp)
 rw [h.len] at hj hk;rw [zxs (zCC h hs) hi (Nat.le_refl _),zxs (zvJ h hs) hi (Nat.le_refl _),zda,h.len]
 let g1:Nat→Int:=fun m=>if m=k then 0 else mul8 (getB (ls.getD m []) i) (f m)
 rw [zrl (g':=g1) (j:=k) (fun _=>zgg _ _) (by simp [g1]) (fun m hm=>by simp [g1,hm]) hk.1]
 congr 1
 have hg1:mul8 (getB (ls.getD j []) i) (f j)=g1 j:=by simp [g1,hjk]
 rw [hg1]
 refine zrl (fun m=>by simp only [g1]; split; exact zvE; exact zgg _ _) ?_ ?_ hj.1
 ·try dsimp only
  rw [zh9 h hs hj.1,if_pos (by rw [hm]; simp),zsv]
  exact zsu _
 ·intro m hmj;dsimp only [g1]
  by_cases hl:m < ls.length
  ·by_cases hmk:m=k
   ·subst hmk
    rw [zh9 h hs hl,if_pos (by rw [hm]; simp),if_pos rfl,zsv]
    exact zsu _
   ·rw [zh9 h hs hl,if_neg (by rw [hm]; simp [hmj,hmk]),if_neg hmk]
  ·have e1:(zcN ps).getD m []=[]:=by rw [List.getD_eq_getElem?_getD,List.getElem?_eq_none (by rw [zda,h.len]; omega)]; rfl
   have e2:ls.getD m []=[]:=by rw [List.getD_eq_getElem?_getD,List.getElem?_eq_none (by omega)]; rfl
   rw [e1,e2,if_neg (by omega)]
theorem zrm (f:Nat→Int):Sec (sumK f 32 (zcN ps) (zcN ps).length):=zrk (zvJ h hs) (Nat.le_refl _)
theorem zmj (f:Nat→Int):Sec (sumK f 32 ls ls.length):=zrk (zCC h hs) (Nat.le_refl _)
theorem zH2 {j:Nat} (hm:zdv ps=[j]):addL (sumP 32 ls) (sumP 32 (zcN ps))=ls.getD j []:=by
 have hj:=zeA.1 (show j∈zdv ps by rw [hm]; exact List.mem_cons_self ..)
 rw [h.len] at hj
 have a1:=zmj h hs (fun _=>1)
 have a2:=zrm h hs (fun _=>1)
 have hl:(sumP 32 ls).length=(sumP 32 (zcN ps)).length:=by rw [show sumP 32 ls=_ from rfl,show sumP 32 (zcN ps)=_ from rfl]; exact a1.len.trans a2.len.symm
 have l1:(sumP 32 ls).length=32:=a1.len
 refine zEp (by rw [zpF hl,l1,(hs _ (zc3 hj.1)).len]) fun i hi=>?_
 rw [zpF hl,l1] at hi
 rw [zyL hl (by rw [l1]; exact hi)]
 have:=zCD h hs (fun _=>1) hm hi
 unfold sumP;rw [this,zrj (zdA (hs _ (zc3 hj.1)) i)];exact x1 (zdA a2 i) (zdA (hs _ (zc3 hj.1)) i)
theorem zH3 {j:Nat} (h6:ls.length≤6) (hm:zdv ps=[j]):byQ (sumQ 32 ls) (zcN ps) j=ls.getD j []:=by
 have hj:=zeA.1 (show j∈zdv ps by rw [hm]; exact List.mem_cons_self ..)
 rw [h.len] at hj;have a1:=zmj h hs pow8;have a2:=zrm h hs pow8;have hl:(sumQ 32 ls).length=(sumQ 32 (zcN ps)).length:=a1.len.trans a2.len.symm;have l1:(sumQ 32 ls).length=32:=a1.len
 have l2:(addL (sumQ 32 ls) (sumQ 32 (zcN ps))).length=32:=by rw [zpF hl,l1]
 unfold byQ
 refine zEp (by rw [zld,l2,(hs _ (zc3 hj.1)).len]) fun i hi=>?_
 rw [zld,l2] at hi
 rw [zvI (by rw [l2]; exact hi),zyL hl (by rw [l1]; exact hi)]
 have:=zCD h hs pow8 hm hi;unfold sumQ;rw [this,x1 (zdA a2 i) (zgg _ _)]
 exact zGG (by omega) (zdA (hs _ (zc3 hj.1)) i)
theorem zEs {j k:Nat} (h6:ls.length≤6) (hm:zdv ps=[j,k]):twoX (sumP 32 ls) (sumQ 32 ls) (zcN ps) j k=ls.getD j []∧twoY (sumP 32 ls) (sumQ 32 ls) (zcN ps) j k=ls.getD k []:=by
 have hjk:j < k:=by have:=znr ps; rw [hm] at this; simpa using this
 have hj:=zeA.1 (show j∈zdv ps by rw [hm]; simp)
 have hk:=zeA.1 (show k∈zdv ps by rw [hm]; simp)
 rw [h.len] at hj hk
 have p1:=zmj h hs (fun _=>1)
 have p2:=zrm h hs (fun _=>1)
 have q1:=zmj h hs pow8;have q2:=zrm h hs pow8;have sj:=hs _ (zc3 hj.1);have sk:=hs _ (zc3 hk.1);have ap:Sec (addL (sumP 32 ls) (sumP 32 (zcN ps))):=zyM p1 p2;have aq:Sec (addL (sumQ 32 ls) (sumQ 32 (zcN ps))):=zyM q1 q2
 have hp:∀ i,i < 32→getB (addL (sumP 32 ls) (sumP 32 (zcN ps))) i=xor8 (getB (ls.getD j []) i) (getB (ls.getD k []) i):=by
  intro i hi;have hl:(sumP 32 ls).length=(sumP 32 (zcN ps)).length:=p1.len.trans p2.len.symm
  rw [zyL hl (by rw [show (sumP 32 ls).length=32 from p1.len]; exact hi)]
  have:=zCE h hs (fun _=>1) (by omega) hm hi
  unfold sumP;rw [this,zrj (zdA sj i),zrj (zdA sk i)];exact x2 (zdA p2 i) (zdA sj i) (zdA sk i)
 have hq:∀ i,i < 32→getB (addL (sumQ 32 ls) (sumQ 32 (zcN ps))) i=xor8 (mul8 (getB (ls.getD j []) i) (pow8 j)) (mul8 (getB (ls.getD k []) i) (pow8 k)):=by
  intro i hi;have hl:(sumQ 32 ls).length=(sumQ 32 (zcN ps)).length:=q1.len.trans q2.len.symm
  rw [zyL hl (by rw [show (sumQ 32 ls).length=32 from q1.len]; exact hi)]
  have:=zCE h hs pow8 (by omega) hm hi
  unfold sumQ;rw [this];exact x2 (zdA q2 i) (zgg _ _) (zgg _ _)
 have ax:twoX (sumP 32 ls) (sumQ 32 ls) (zcN ps) j k=ls.getD j []:=by
  unfold twoX;have asc:=zCA (pow8 k) ap;have aa:=zyM aq asc
  refine zEp (by rw [zld,aa.len,sj.len]) fun i hi=>?_
  rw [zld,aa.len] at hi
  rw [zvI (by rw [aa.len]; exact hi),zyL (by rw [aq.len,asc.len]) (by rw [aq.len]; exact hi),zvI (by rw [ap.len]; exact hi),hq i hi,hp i hi,zEo (zdA sj i) (zdA sk i) (zzZ k),
   x4 (zgg _ _) (zgg _ _) (zgg _ _)]
  exact zGH (by omega) hjk (zdA sj i)
 refine ⟨ax,?_⟩;unfold twoY;rw [ax]
 refine zEp (by rw [zpF (by rw [ap.len,sj.len]),ap.len,sk.len]) fun i hi=>?_
 rw [zpF (by rw [ap.len,sj.len]),ap.len] at hi
 rw [zyL (by rw [ap.len,sj.len]) (by rw [ap.len]; exact hi),hp i hi]
 exact x3 (zdA sj i) (zdA sk i)
theorem zA3 {p q:List Int} (h1:1≤ls.length) (h8:ls.length≤8) (hp:p=[]∨p=sumP 32 ls) (hq:q=[]∨q=sumQ 32 ls∧ls.length≤6):
  zoA p q ps=if 2 < (zdv ps).length+(zdv [p,q]).length then none else some ls:=by
 have p1:=zmj h hs (fun _=>1)
 have q1:=zmj h hs pow8
 have hfit:ps.all (fitS 32)=true:=by
  rw [List.all_eq_true];intro x hx;obtain ⟨i,hi,e⟩:=List.mem_iff_getElem.1 hx
  have hd:ps.getD i []=x:=by rw [List.getD_eq_getElem?_getD,List.getElem?_eq_getElem hi,e]; rfl
  rcases h.or i (by rw [←h.len]; exact hi) with e | e
  ·rw [hd] at e; simp [fitS,e]
  ·rw [hd] at e; rw [e]; unfold fitS; rw [(hs _ (zc3 (by rw [←h.len]; exact hi))).len]; simp
 have fP:fitS 32 p=true:=by
  rcases hp with e | e
  ·simp [fitS,e]
  ·rw [e]; unfold fitS; rw [show (sumP 32 ls).length=32 from p1.len]; simp
 have fQ:fitS 32 q=true:=by
  rcases hq with e | ⟨e,_⟩
  ·simp [fitS,e]
  ·rw [e]; unfold fitS; rw [show (sumQ 32 ls).length=32 from q1.len]; simp
 have hpq:[p,q].all (fitS 32)=true:=by simp [fP,fQ]
 unfold zoA
 rw [if_neg (by rw [h.len,hfit,hpq]; rintro (e | e | e | e)<;>first | omega | cases e)]
 by_cases hc:2 < (zdv ps).length+(zdv [p,q]).length
 ·rw [if_pos hc,if_pos hc]
 ·rw [if_neg hc,if_neg hc];rw [zyO] at hc
  have hset:∀ {xs:List (List Int)},xs.length=ls.length→(∀ i,i < ls.length→xs.getD i []=ls.getD i [])→some xs=some ls:=by
   intro xs hx he
   rw [zI0 hx (fun i hi=>he i (by rw [←hx]; exact hi))]
  rcases hm:zdv ps with _ | ⟨j,_ | ⟨k,_ | ⟨m,t⟩⟩⟩
  ·dsimp only
   refine hset (by rw [zda,h.len]) fun i hi=>?_
   rw [zh9 h hs hi,if_neg (by rw [hm]; simp)]
  ·dsimp only;rw [hm] at hc
   have hj:=zeA.1 (show j∈zdv ps by rw [hm]; exact List.mem_cons_self ..)
   rw [h.len] at hj
   have key:∀ x,x=ls.getD j []→some ((zcN ps).set j x)=some ls:=by
    intro x hx
    refine hset (by rw [List.length_set,zda,h.len]) fun i hi=>?_
    rw [List.getD_eq_getElem?_getD,List.getElem?_set]
    by_cases e:j=i
    ·subst e
     rw [if_pos rfl,if_pos (by rw [zda,h.len]; exact hi),hx]; rfl
    ·rw [if_neg e,←List.getD_eq_getElem?_getD,zh9 h hs hi,if_neg (by rw [hm]; simpa using fun e'=>e e'.symm)]
   by_cases hpl:0 < p.length
   ·rw [if_pos hpl];rcases hp with e | e
    ·rw [e] at hpl; cases hpl
    ·exact key _ (by rw [e]; exact zH2 h hs hm)
   ·rw [if_neg hpl]
    have hp0:p=[]:=by cases p; rfl; simp at hpl
    rcases hq with e | ⟨e,h6⟩
    ·rw [if_pos hp0,if_pos e] at hc; simp at hc
    ·exact key _ (by rw [e]; exact zH3 h hs h6 hm)
  ·dsimp only;rw [hm] at hc
   have hp0:¬ p=[]:=fun e=>hc (by rw [if_pos e]; simp; try omega)
   have hq0:¬ q=[]:=fun e=>hc (by rw [if_pos e]; simp; try omega)
   obtain ⟨hq,h6⟩:=hq.resolve_left hq0;have hp:=hp.resolve_left hp0
   have hjk:j < k:=by have:=znr ps; rw [hm] at this; simpa using this
   obtain ⟨b1,b2⟩:=zEs h hs h6 hm;rw [hp,hq,b1,b2]
   refine hset (by rw [List.length_set,List.length_set,zda,h.len]) fun i hi=>?_
   rw [List.getD_eq_getElem?_getD,List.getElem?_set]
   by_cases e:k=i
   ·subst e
    rw [if_pos rfl,if_pos (by rw [List.length_set,zda,h.len]; exact hi)]; rfl
   ·rw [if_neg e,List.getElem?_set]
    by_cases e2:j=i
    ·subst e2
     rw [if_pos rfl,if_pos (by rw [zda,h.len]; exact hi)]; rfl
    ·rw [if_neg e2,←List.getD_eq_getElem?_getD,zh9 h hs hi,if_neg (by rw [hm]; simp; exact ⟨fun e'=>e2 e'.symm,fun e'=>e e'.symm⟩)]
  ·rw [hm] at hc; simp at hc; omega
end
end Wf

namespace Wf
open Go Go.RowKit
set_option linter.unusedSimpArgs false
set_option linter.unusedVariables false
def uL (l:List Int):List D:=l.map (D.int .u8)
theorem zdi (l:List Int):D.lentL (uL l)=uL l:=by
 induction l with
 | nil=>rfl
 | cons n l ih=>unfold uL at*; simp [ih]
@[simp] theorem zdz (l:List Int):(uL l).length=l.length:=by simp [uL]
theorem zkd {l:List Int} {j:Nat} {n:Int} (h:l[j]? =some n):(uL l)[j]? =some (.int .u8 n):=by simp [uL,h]
theorem zqF {p:D→Bool} (h:∀ n,p (.int .u8 n)=true) (l:List Int):(uL l).all p=true:=by
 simp [uL,List.all_eq_true]; intro n _; exact h n
@[simp] theorem zhv (l:List Int):(uL l).all D.free=true:=zqF (fun _=>rfl) l
@[simp] theorem zGI (l:List Int):(uL l).all D.flat=true:=zqF (fun _=>rfl) l
@[simp] theorem zvK (l:List Int):zil (uL l)=true:=zqF (fun _=>rfl) l
@[simp] theorem zHv (l:List Int):zdC (uL l)=true:=zqF (fun _=>rfl) l
@[simp] theorem zz4 (l:List Int):cells (uL l)=true:=zqF (fun _=>rfl) l
@[simp] theorem zEt (l:List Int):zeC 1 (uL l)=true:=zqF (fun _=>rfl) l
@[simp] theorem zH4 (l:List Int):zgm 1 (uL l)=true:=zqF (fun _=>rfl) l
@[simp] theorem zrn (l:List Int):D.freeL (uL l)=true:=by rw [zB0]; exact zhv l
@[simp] theorem zCF (a b:List Int):uL (a++b)=uL a++uL b:=by simp [uL]
theorem zCG (a:List Int) (n:Int):uL a++[.int .u8 n]=uL (a++[n]):=by simp [uL]
theorem zyP (n:Nat) (a:List Int):(uL a).take n=uL (a.take n):=by simp [uL,List.map_take]
theorem zyQ (n:Nat) (a:List Int):(uL a).drop n=uL (a.drop n):=by simp [uL,List.map_drop]
theorem zCH (a:List Int) (i:Nat) (n:Int):(uL a).set i (.int .u8 n)=uL (a.set i n):=by simp [uL,List.map_set]
theorem zsw (n:Nat) (k:Int):List.replicate n (D.int .u8 k)=uL (List.replicate n k):=by simp [uL]
structure DS where
 l:List Int
 pend:List (Int×List Int)
 failed:Bool
def wD (w:Int×List Int):D:=.agg (.int .i64 w.1::uL w.2)
def DS.cells (s:DS):List D:=uL s.l++[.sl .own (s.pend.map wD),.bool s.failed]
structure DS.Ok (s:DS):Prop where
 len:s.l.length=1664
 byt:∀ n∈s.l,0≤n∧n < 256
 pend:∀ w∈s.pend,Sec w.2∧0≤w.1∧w.1 < 52
 fl:s.failed=true→s.pend=[]
theorem DS.Ok.ps {s:DS} (h:s.Ok):∀ w∈s.pend,Sec w.2:=fun w hw=>(h.pend w hw).1
section
variable {s:DS}
theorem zns (h:s.l.length=1664):s.cells[1664]? =some (.sl .own (s.pend.map wD)):=by
 unfold DS.cells
 rw [List.getElem?_append_right (by simp [h])]; simp [h]
theorem zoB (h:s.l.length=1664):s.cells[1665]? =some (.bool s.failed):=by
 unfold DS.cells
 rw [List.getElem?_append_right (by simp [h])]; simp [h]
theorem zke (h:s.l.length=1664):s.cells.length=1666:=by simp [DS.cells,h]
def DS.base (s:DS) (a:Nat):List Int:=(s.l.drop (a*32)).take 32
theorem zEu (h:s.Ok) {a:Nat} (ha:a < 52):Sec (s.base a):=by
 refine ⟨by unfold DS.base; simp [h.len]; omega,fun n hn=>h.byt n (List.mem_of_mem_drop (List.mem_of_mem_take hn))⟩
theorem zyR (h:s.l.length=1664) {a:Nat} (ha:a < 52):(s.cells.drop (a*32)).take 32=uL (s.base a):=by
 unfold DS.cells DS.base
 rw [List.drop_append_of_le_length (by simp [h]; omega),List.take_append_of_le_length (by simp [h]; omega),zyQ,zyP]
def DS.setSec (s:DS) (a:Nat) (b:List Int):DS:={ s with l:=s.l.take (a*32)++b++s.l.drop (a*32+32) }
theorem zFF (h:s.l.length=1664) {a:Nat} (ha:a < 52) (b:List Int):s.cells.take (a*32)++uL b++s.cells.drop (a*32+32)=(s.setSec a b).cells:=by
 unfold DS.cells DS.setSec
 rw [List.take_append_of_le_length (by simp [h]; omega),List.drop_append_of_le_length (by simp [h]; omega),zyP,zyQ]
 simp [uL]
theorem zpG (h:s.l.length=1664) (p:List (Int×List Int)):s.cells.take 1664++[.sl .own (p.map wD)]++s.cells.drop 1665=({ s with pend:=p }:DS).cells:=by
 unfold DS.cells
 rw [List.take_append_of_le_length (by simp [h]),List.take_of_length_le (by simp [h]),List.drop_append,List.drop_of_length_le (by simp [h])]
 simp [h]
theorem zuA (h:s.l.length=1664) {a:Nat} (ha:a < 52) {b:List Int} (hb:b.length=32):(s.setSec a b).l.length=1664:=by
 unfold DS.setSec; simp [h,hb]; omega
theorem zsx (h:s.Ok) {a:Nat} (ha:a < 52) {b:List Int} (hb:Sec b):(s.setSec a b).Ok:=by
 refine ⟨zuA h.len ha hb.len,fun n hn=>?_,h.pend,h.fl⟩
 unfold DS.setSec at hn;simp only [List.mem_append] at hn;rcases hn with (hn | hn) | hn
 ·exact h.byt n (List.mem_of_mem_take hn)
 ·exact hb.byt n hn
 ·exact h.byt n (List.mem_of_mem_drop hn)
theorem zsy (h:s.l.length=1664) {a:Nat} (ha:a < 52) {b:List Int} (hb:b.length=32) (c:Nat) (hc:c < 52):(s.setSec a b).base c=if c=a then b else s.base c:=by
 unfold DS.setSec DS.base;dsimp only
 have l1:(s.l.take (a*32)).length=a*32:=by simp [h]; omega
 split
 ·rename_i e; subst e
  rw [List.append_assoc,List.drop_append,List.drop_of_length_le (by omega),l1]
  simp [hb]
 ·rename_i e;apply List.ext_getElem?;intro j
  by_cases hj:j < 32
  ·rw [List.getElem?_take,List.getElem?_take,if_pos hj,if_pos hj,List.getElem?_drop,List.getElem?_drop]
   by_cases hca:c < a
   ·rw [List.append_assoc,List.getElem?_append_left (by omega),List.getElem?_take,if_pos (by omega)]
   ·rw [List.getElem?_append_right (by simp [h,hb]; omega),List.getElem?_drop]
    congr 1;simp [h,hb]; omega
  ·rw [List.getElem?_take,List.getElem?_take,if_neg hj,if_neg hj]
end
def DS.may (s:DS) (a:Int):Int:=if s.failed then 5 else if a < 0∨52≤a then 4 else 0
theorem znt {s:DS} {a:Int}:s.may a=0↔s.failed=false∧0≤a∧a < 52:=by
 unfold DS.may;cases s.failed
 ·by_cases h:a < 0∨52≤a
  ·simp [h]; omega
  ·simp [h]; omega
 ·simp
def look (p:List (Int×List Int)) (a:Int) (b:List Int):List Int:=p.foldl (fun b w=>if w.1=a then w.2 else b) b
theorem zro (a:Int) (b:List Int):look [] a b=b:=rfl
theorem zCI (p:List (Int×List Int)) (w:Int×List Int) (a:Int) (b:List Int):look (p++[w]) a b=if w.1=a then w.2 else look p a b:=by simp [look]
theorem zxt {p:List (Int×List Int)} {a:Int} {b:List Int} {k:Nat} {w:Int×List Int} (h:p[k]? =some w):look (p.take (k+1)) a b=if w.1=a then w.2 else look (p.take k) a b:=by
 rw [List.take_add_one,h]; simp [look]
theorem zz5 {p:List (Int×List Int)} {a:Int} {b:List Int} (hp:∀ w∈p,w.2.length=32) (hb:b.length=32):(look p a b).length=32:=by
 induction p generalizing b with
 | nil=>exact hb
 | cons w p ih=>
  refine ih (fun w hw=>hp w (List.mem_cons_of_mem _ hw)) ?_
  dsimp only;split
  ·exact hp w (List.mem_cons_self ..)
  ·exact hb
def DS.sec (s:DS) (a:Int):List Int:=look s.pend a (s.base a.toNat)
def DS.read (s:DS) (a:Int):List Int×Int:=if s.may a≠0 then ([],s.may a) else (s.sec a,0)
def putR (s:DS) (a:Int) (b:List Int):(Int×List Int)×Int:=if s.may a≠0 then ((0,zez),s.may a) else if b.length≠32 then ((0,zez),1) else ((a,b),0)
abbrev DS.mayW (s:DS) (a:Int) (b:List Int):Int:=(putR s a b).2
theorem zvL {s:DS} {a:Int} {b:List Int} (h:s.mayW a b=0):s.may a=0∧b.length=32∧(putR s a b).1=(a,b)∧0≤a∧a < 52:=by
 unfold DS.mayW putR at h;unfold putR
 by_cases h1:s.may a=0
 ·rw [if_neg (by simp [h1])] at h ⊢
  by_cases h2:b.length=32
  ·rw [if_neg (by simp [h2])]
   exact ⟨h1,h2,rfl,(znt.1 h1).2⟩
  ·rw [if_pos h2] at h; exact absurd h (by decide)
 ·rw [if_pos h1] at h; exact absurd h h1
theorem zz6 (s:DS) (a:Int) (b:List Int):(putR s a b).1.2.length=32:=by
 unfold putR;split
 ·rfl
 ·split
  ·rfl
  ·rename_i h; simpa using h
theorem zCJ {s:DS} {a:Int} {b:List Int} (h:s.may a=0) (hb:b.length=32):s.mayW a b=0:=by
 unfold DS.mayW putR
 rw [if_neg (by simp [h]),if_neg (by simp [hb])]
def DS.add (s:DS) (a:Int) (b:List Int):DS:={ s with pend:=s.pend++[(a,b)] }
def DS.write (s:DS) (a:Int) (b:List Int):Int×DS:=(s.mayW a b,if s.mayW a b=0 then s.add a b else s)
def DS.put1 (s:DS) (w:Int×List Int):DS:=s.setSec w.1.toNat w.2
def DS.puts (s:DS) (p:List (Int×List Int)):DS:=p.foldl DS.put1 s
def DS.flushed (s:DS):DS:={ s.puts s.pend with pend:=[] }
def DS.flush (s:DS):Int×DS:=if s.failed then (5,s) else (0,s.flushed)
def DS.new:DS:=⟨List.replicate 1664 0,[],false⟩
def DS.dead:DS:=⟨List.replicate 1664 0,[],true⟩
def DS.damage (s:DS) (a:Int) (b:List Int):Int×DS:=(s.mayW a b,if s.mayW a b=0 then s.setSec a.toNat b else s)
theorem zFG:DS.new.Ok:=⟨List.length_replicate ..,fun n h=>by unfold DS.new at h; rw [(List.mem_replicate.1 h).2]; omega,fun w h=>(by cases h),fun _=>rfl⟩
theorem zGJ:DS.dead.Ok:=⟨List.length_replicate ..,fun n h=>by unfold DS.dead at h; rw [(List.mem_replicate.1 h).2]; omega,fun w h=>(by cases h),fun _=>rfl⟩
theorem zFH {s:DS} (h:s.Ok) (hf:s.failed=false) {a:Int} {b:List Int} (hb:Sec b) (a0:0≤a) (a1:a < 52):(s.add a b).Ok:=by
 refine ⟨h.len,h.byt,fun w hw=>?_,fun e=>by rw [show (s.add a b).failed=s.failed from rfl,hf] at e; cases e⟩
 rcases List.mem_append.1 hw with hw | hw
 ·exact h.pend w hw
 ·rw [List.mem_singleton.1 hw]; exact ⟨hb,a0,a1⟩
theorem zsz {s:DS} (h:s.Ok):∀ (p:List (Int×List Int)),(∀ w∈p,Sec w.2∧0≤w.1∧w.1 < 52)→(s.puts p).Ok∧(s.puts p).failed=s.failed∧(s.puts p).pend=s.pend
 | [],_=>⟨h,rfl,rfl⟩
 | w::p,hp=>by
  obtain ⟨h1,h2,h3⟩:=hp w (List.mem_cons_self ..)
  exact zsz (s:=s.put1 w) (zsx h (by omega) h1) p fun w hw=>hp w (List.mem_cons_of_mem _ hw)
theorem zxu {s:DS} (h:s.Ok) {a:Nat} (ha:a < 52):∀ (p:List (Int×List Int)),(∀ w∈p,Sec w.2∧0≤w.1∧w.1 < 52)→(s.puts p).base a=look p (a:Int) (s.base a)
 | [],_=>rfl
 | w::p,hp=>by
  obtain ⟨h1,h2,h3⟩:=hp w (List.mem_cons_self ..)
  have:=zxu (s:=s.put1 w) (zsx h (by omega) h1) ha p fun w hw=>hp w (List.mem_cons_of_mem _ hw)
  show ((s.put1 w).puts p).base a=look p (a:Int) (if w.1=(a:Int) then w.2 else s.base a)
  rw [this];congr 1;unfold DS.put1
  rw [zsy h.len (by omega) h1.len a ha]
  by_cases e:a=w.1.toNat
  ·rw [if_pos e,if_pos (by omega)]
  ·rw [if_neg e,if_neg (by omega)]
theorem zuB {s:DS} (h:s.Ok):s.flushed.Ok:=by
 obtain ⟨h1,h2,h3⟩:=zsz h s.pend h.pend
 exact ⟨h1.len,h1.byt,fun w hw=>(by cases hw),fun _=>rfl⟩
theorem zm0 {s:DS} (h:s.Ok):s.flushed.failed=s.failed:=(zsz h s.pend h.pend).2.1
theorem zyS {s:DS} (h:s.Ok) {a:Int} (a0:0≤a) (a1:a < 52):s.flushed.sec a=s.sec a:=by
 have:=zxu h (a:=a.toNat) (by omega) s.pend h.pend
 unfold DS.sec;show look [] a ((s.puts s.pend).base a.toNat)=_
 rw [zro,this,show ((a.toNat:Nat):Int)=a by omega]
theorem zCK {s:DS} (h:s.Ok) {a:Int} {b:List Int} (hb:Sec b∨b.length≠32):(s.damage a b).2.Ok:=by
 unfold DS.damage;dsimp only;split
 ·rename_i he;obtain ⟨p1,p2,p3,p4,p5⟩:=zvL he
  exact zsx h (by omega) (hb.resolve_right (by simp [p2]))
 ·exact h
structure Ben where
 w:Int
 left:Int
 down:Bool
 ds:List DS
 g:Tb
structure Ben.Ok (B:Ben):Prop where
 w0:0≤B.w
 lf:B.left≤1000000000
 small:B.ds.length≤8
 ds:∀ s∈B.ds,s.Ok∧(s.pend.length:Int)≤B.w
def Ben.dk (B:Ben) (d:Int):DS:=(B.ds[d.toNat]?).getD .new
def Ben.setD (B:Ben) (d:Int) (s:DS):Ben:={ B with ds:=B.ds.set d.toNat s }
def Ben.n (B:Ben):Int:=B.ds.length
def Ben.is (B:Ben) (d:Int):Bool:=decide (0≤d∧d < B.n)
def Ben.may (B:Ben) (d:Int):Int:=if B.is d=true then (if B.down then 6 else 0) else 1
def Ben.failed (B:Ben) (d:Int):Bool:=B.is d && (B.dk d).failed
def Ben.read (B:Ben) (d a:Int):List Int×Int:=if B.may d≠0 then ([],B.may d) else (B.dk d).read a
def Ben.less (B:Ben):Ben:={ B with left:=if 0 < B.left then B.left - 1 else B.left,w:=B.w+1 }
def Ben.junk (B:Ben) (s:DS):Ben:={ B with g:=B.g++[s.cells] }
def Ben.off (B:Ben):Ben:={ B with down:=true }
def Ben.write (B:Ben) (d a:Int) (x:List Int):Int×Ben:=
 if B.may d≠0 then (B.may d,B)
 else if (B.dk d).mayW a x≠0 then ((B.dk d).mayW a x,B.junk ((B.dk d).write a x).2)
 else if B.left=0 then (6,(B.junk ((B.dk d).write a x).2).off)
 else (0,((B.junk ((B.dk d).write a x).2).less).setD d ((B.dk d).add a x))
def Ben.flush (B:Ben) (d:Int):Int×Ben:=if B.may d≠0 then (B.may d,B) else ((B.dk d).flush.1,B.setD d (B.dk d).flush.2)
def Ben.fail (B:Ben) (d:Int):Int×Ben:=if B.is d=true then (0,B.setD d .dead) else (1,B)
def Ben.damage (B:Ben) (d a:Int) (x:List Int):Int×Ben:=if B.is d=true then (((B.dk d).damage a x).1,B.setD d ((B.dk d).damage a x).2) else (1,B)
def Ben.up (B:Ben) (live:List Bool) (d:Int):Bool:=decide (d < B.n) && ((live[d.toNat]?).getD false && !B.failed d)
def Ben.new (n:Nat):Ben:=⟨0,-1,false,List.replicate n .new,[]⟩
theorem zfN {B:Ben} {d:Int}:B.is d=true↔0≤d∧d < B.n:=by simp [Ben.is]
section
variable {B:Ben} {d e:Int}
theorem zmv (hB:B.Ok) (d:Int):(B.dk d).Ok∧((B.dk d).pend.length:Int)≤B.w:=by
 unfold Ben.dk
 cases h:B.ds[d.toNat]? with
 | none=>exact ⟨zFG,by have:=hB.w0; show (([]:List (Int×List Int)).length:Int)≤B.w; simpa using this⟩
 | some s=>exact hB.ds s (List.mem_of_getElem? h)
@[simp] theorem zH5 (s:DS):(B.setD d s).n=B.n:=by simp [Ben.setD,Ben.n]
@[simp] theorem zCL (s:DS):(B.setD d s).down=B.down:=rfl
@[simp] theorem zH6 (s:DS):(B.setD d s).left=B.left:=rfl
@[simp] theorem zJb (s:DS):(B.setD d s).w=B.w:=rfl
@[simp] theorem zyT (s:DS):(B.setD d s).is e=B.is e:=by unfold Ben.is; rw [zH5]
@[simp] theorem zIF (s:DS):(B.setD d s).may e=B.may e:=by unfold Ben.may; rw [zyT,zCL]
theorem zhw (hd:B.is d=true) (he:0≤e) (s:DS):(B.setD d s).dk e=if e=d then s else B.dk e:=by
 obtain ⟨h0,h1⟩:=zfN.1 hd;unfold Ben.n at h1;unfold Ben.setD Ben.dk;dsimp only;rw [List.getElem?_set]
 by_cases h:e=d
 ·subst h; rw [if_pos rfl,if_pos rfl,if_pos (by omega)]; rfl
 ·rw [if_neg (by omega),if_neg h]
theorem zpH (hB:B.Ok) {s:DS} (hs:s.Ok) (hp:(s.pend.length:Int)≤B.w):(B.setD d s).Ok:=
 ⟨hB.w0,hB.lf,by simpa [Ben.setD] using hB.small,fun u hu=>by
  rcases List.mem_or_eq_of_mem_set hu with hu | hu
  ·exact hB.ds u hu
  ·subst hu; exact ⟨hs,hp⟩⟩
theorem zCM (hB:B.Ok):B.less.Ok:=⟨by have:=hB.w0; unfold Ben.less; dsimp only; omega,by have:=hB.lf; unfold Ben.less; dsimp only; split<;>omega,hB.small,fun s hs=>⟨(hB.ds s hs).1,by have:=(hB.ds s hs).2; unfold Ben.less; dsimp only; omega⟩⟩
@[simp] theorem zJc:B.less.n=B.n:=rfl
@[simp] theorem zH7:B.less.down=B.down:=rfl
@[simp] theorem zI1:B.less.is d=B.is d:=rfl
@[simp] theorem zIG:B.less.may d=B.may d:=rfl
@[simp] theorem zI2:B.less.dk d=B.dk d:=rfl
@[simp] theorem zJd (s:DS):(B.junk s).n=B.n:=rfl
@[simp] theorem zH8 (s:DS):(B.junk s).down=B.down:=rfl
@[simp] theorem zH9 (s:DS):(B.junk s).left=B.left:=rfl
@[simp] theorem zJe (s:DS):(B.junk s).w=B.w:=rfl
@[simp] theorem zI3 (s:DS):(B.junk s).is d=B.is d:=rfl
@[simp] theorem zIH (s:DS):(B.junk s).may d=B.may d:=rfl
@[simp] theorem zI4 (s:DS):(B.junk s).dk d=B.dk d:=rfl
@[simp] theorem zJk:B.off.n=B.n:=rfl
@[simp] theorem zII:B.off.down=true:=rfl
@[simp] theorem zIJ:B.off.left=B.left:=rfl
@[simp] theorem zJl:B.off.w=B.w:=rfl
@[simp] theorem zJf:B.off.is d=B.is d:=rfl
@[simp] theorem zJg:B.off.dk d=B.dk d:=rfl
theorem zsA (hB:B.Ok) (s:DS):(B.junk s).Ok:=⟨hB.w0,hB.lf,hB.small,hB.ds⟩
theorem zIa (hB:B.Ok):B.off.Ok:=⟨hB.w0,hB.lf,hB.small,hB.ds⟩
theorem may0:B.may d=0↔B.is d=true∧B.down=false:=by
 unfold Ben.may;cases B.is d<;>cases B.down<;>simp
end
structure Nx (K:Int) (B B':Ben):Prop where
 ok:B'.Ok
 n:B'.n=B.n
 le:B.w≤B'.w
 w:B'.w≤B.w+K
theorem Nx.rfl' {B:Ben} (h:B.Ok) {K:Int} (hK:0≤K):Nx K B B:=⟨h,rfl,by omega,by omega⟩
theorem Nx.trans {K L:Int} {A B C:Ben} (h1:Nx K A B) (h2:Nx L B C):Nx (K+L) A C:=⟨h2.ok,h2.n.trans h1.n,by have:=h1.le; have:=h2.le; omega,by have:=h1.w; have:=h2.w; omega⟩
theorem Nx.mono {K L:Int} {A B:Ben} (h:Nx K A B) (hK:K≤L):Nx L A B:=⟨h.ok,h.n,h.le,by have:=h.w; omega⟩
section
variable {B:Ben} {d a:Int} {x:List Int}
theorem zz7 (hB:B.Ok) (hx:Sec x∨x.length≠32):Nx 1 B (B.write d a x).2:=by
 unfold Ben.write;split
 ·exact .rfl' hB (by omega)
 ·rename_i h0;split
  ·exact ⟨zsA hB _,rfl,by simp,by simp; omega⟩
  ·split
   ·exact ⟨zIa (zsA hB _),rfl,by simp,by simp; omega⟩
   ·rename_i h1 _;obtain ⟨p1,p2,p3,p4,p5⟩:=zvL (Classical.not_not.1 h1);have hd:=may0.1 (Classical.not_not.1 h0);have hk:=zmv hB d
    refine ⟨zpH (zCM (zsA hB _)) (zFH hk.1 (znt.1 p1).1 (hx.resolve_right (by simp [p2])) p4 p5) ?_,by simp,?_,?_⟩
    ·have:=hk.2;show (((B.dk d).pend++[(a,x)]).length:Int)≤B.w+1;simp; omega
    ·show B.w≤B.w+1; omega
    ·show B.w+1≤B.w+1; omega
theorem zz8 (hB:B.Ok):Nx 0 B (B.flush d).2:=by
 unfold Ben.flush;split
 ·exact .rfl' hB (by omega)
 ·have hk:=zmv hB d;unfold DS.flush
  refine ⟨zpH hB ?_ ?_,by simp,by simp,by simp⟩
  ·split
   ·exact hk.1
   ·exact zuB hk.1
  ·split
   ·exact hk.2
   ·exact hB.w0
theorem zGK (hB:B.Ok):Nx 0 B (B.fail d).2:=by
 unfold Ben.fail;split
 ·exact ⟨zpH hB zGJ (by exact hB.w0),by simp,by simp,by simp⟩
 ·exact .rfl' hB (by omega)
theorem zxv (hB:B.Ok) (hx:Sec x∨x.length≠32):Nx 0 B (B.damage d a x).2:=by
 unfold Ben.damage;split
 ·refine ⟨zpH hB (zCK (zmv hB d).1 hx) ?_,by simp,by simp,by simp⟩
  have:=(zmv hB d).2;unfold DS.damage;dsimp only;split
  ·exact this
  ·exact this
 ·exact .rfl' hB (by omega)
theorem zuC {n:Nat} (h:n≤8):(Ben.new n).Ok:=⟨Int.le_refl _,by show (-1:Int)≤1000000000; omega,by show (List.replicate n DS.new).length≤8; simpa using h,fun s hs=>by
 unfold Ben.new at hs;rw [(List.mem_replicate.1 hs).2];exact ⟨zFG,Int.le_refl _⟩⟩
end
def runE {σ:Type} (f:Nat→σ→Int×σ):Nat→Nat→σ→Int×σ
 | _,0,s=>(0,s)
 | k,n+1,s=>if (f k s).1=0 then runE f (k+1) n (f k s).2 else f k s
theorem zz9 {R α σ:Type} (f:Nat→σ→Int×σ) (I:Nat→σ→Prop) (st:Nat→σ→α) (fin:Int×σ→Option R) (n:Nat) {B:(α→Option R)→α→Option R}
  (hI:∀ k s,k < n→I k s→(f k s).1=0→I (k+1) (f k s).2)
  (h1:∀ again k s,k < n→I k s→B again (st k s)=if (f k s).1=0 then again (st (k+1) (f k s).2) else fin (f k s))
  (h2:∀ again s,I n s→B again (st n s)=fin (0,s)):∀ (m k N:Nat) (s:σ),k+m=n→m < N→I k s→fixN B N (st k s)=fin (runE f k m s)
 | 0,k,N+1,s,e,_,hs=>by
  have:k=n:=by omega
  subst this
  exact h2 _ s hs
 | m+1,k,N+1,s,e,hN,hs=>by
  show B (fixN B N) (st k s)=_
  rw [h1 _ k s (by omega) hs]
  unfold runE;split
  ·rename_i e0
   exact zz9 f I st fin n hI h1 h2 m (k+1) N _ (by omega) (by omega) (hI k s (by omega) hs e0)
  ·rfl
theorem zoC {R α σ:Type} (f:Nat→σ→Int×σ) (I:Nat→σ→Prop) (st:Nat→σ→α) (fin:Int×σ→Option R) (n:Nat) (hn:n < 1000000000) {s:σ} {B:(α→Option R)→α→Option R} (h0:I 0 s)
  (hI:∀ k s,k < n→I k s→(f k s).1=0→I (k+1) (f k s).2)
  (h1:∀ again k s,k < n→I k s→B again (st k s)=if (f k s).1=0 then again (st (k+1) (f k s).2) else fin (f k s))
  (h2:∀ again s,I n s→B again (st n s)=fin (0,s)):zb3 B (st 0 s)=fin (runE f 0 n s):=
 zz9 f I st fin n hI h1 h2 n 0 fuel s (by omega) (by have:=zpu; omega) h0
theorem zca {R α:Type} (st:Nat→α) (W:Nat) (hW:W < 1000000000) {B:(α→Option R)→α→Option R} {r:Option R} (h1:∀ again k,k < W→B again (st k)=again (st (k+1))) (h2:∀ again,B again (st W)=r):zb3 B (st 0)=r:=
 zsq st W h1 h2 W 0 fuel (by omega) (by have:=zpu; omega)
end Wf

namespace Wf
open Go Go.RowKit Go.Proofs
set_option linter.unusedVariables false
set_option maxRecDepth 100000
theorem zbn:Tryz.prog.follows .mixedOrders=true:=by kernel_rfl
namespace ID
abbrev wattlekeep_Within:Nat:=12
abbrev wattleref01_Check:Nat:=46
abbrev wattleref01_Budget:Nat:=95
abbrev wattleref01_Width:Nat:=49
abbrev wattleref01_Can:Nat:=83
abbrev wattleplay_Pair:Nat:=38
abbrev disk_New:Nat:=94
abbrev bench_New:Nat:=47
abbrev wattleplay_Sector:Nat:=13
abbrev wattleplay_Sectors:Nat:=48
abbrev wattleref01_fine:Nat:=59
abbrev wattleref01_Parity:Nat:=91
abbrev wattleref01_Disk:Nat:=52
abbrev wattleref01_alike:Nat:=126
abbrev wattleref01_P:Nat:=92
abbrev wattleref01_Mul:Nat:=128
abbrev wattleref01_Pow:Nat:=127
abbrev wattleref01_Q:Nat:=93
abbrev wattleref01_Fill:Nat:=43
abbrev bench_Bench_is:Nat:=74
abbrev disk_Disk_may:Nat:=98
abbrev disk_Disk_put:Nat:=129
abbrev slices_Clone_disk_write_disk_write:Nat:=97
abbrev disk_Disk_Damage_1:Nat:=131
abbrev slices_IndexFunc_disk_write_disk_write:Nat:=152
abbrev slices_DeleteFunc_disk_write_disk_write:Nat:=130
abbrev disk_Disk_Damage:Nat:=96
abbrev bench_Bench_Damage:Nat:=50
abbrev wattlelaw14_Filled:Nat:=10
abbrev wattleplay_Live:Nat:=11
abbrev wattleref01_least:Nat:=123
abbrev wattleref01_Rows:Nat:=84
abbrev wattleref01_Windows:Nat:=39
abbrev slices_Index_int_int:Nat:=66
abbrev slices_Contains_int_int:Nat:=122
abbrev geom_Check:Nat:=82
abbrev geom_Budget:Nat:=132
abbrev geom_Width:Nat:=101
abbrev geom_Can:Nat:=125
abbrev plan_Rows:Nat:=88
abbrev plan_Windows:Nat:=124
abbrev window_may:Nat:=85
abbrev plan_Span:Nat:=86
abbrev geom_Capacity:Nat:=87
abbrev place_in:Nat:=111
abbrev place_Parity:Nat:=67
abbrev place_Disk:Nat:=102
abbrev place_Of:Nat:=63
abbrev bench_Bench_Len:Nat:=70
abbrev disk_Disk_Failed:Nat:=144
abbrev bench_Bench_Failed:Nat:=110
abbrev stripe_up:Nat:=64
abbrev bench_Bench_may:Nat:=53
abbrev slices_Clone_byte_byte:Nat:=99
abbrev disk_Disk_Read:Nat:=54
abbrev bench_Bench_Read:Nat:=21
abbrev row_in:Nat:=100
abbrev erase_Missing:Nat:=133
abbrev erase_fits_1:Nat:=153
abbrev row_sectors_1:Nat:=139
abbrev record_Decode_1:Nat:=108
abbrev slices_IndexFunc_byte_byte:Nat:=143
abbrev slices_ContainsFunc_byte_byte:Nat:=107
abbrev erase_fits:Nat:=134
abbrev erase_filled:Nat:=135
abbrev gf_double:Nat:=156
abbrev gf_Mul:Nat:=160
abbrev synd_Scale:Nat:=155
abbrev synd_Add:Nat:=137
abbrev gf_Pow:Nat:=142
abbrev synd_P_1:Nat:=141
abbrev synd_sum:Nat:=140
abbrev synd_P:Nat:=105
abbrev synd_Q:Nat:=106
abbrev gf_Log:Nat:=159
abbrev gf_Inv:Nat:=154
abbrev erase_two:Nat:=136
abbrev erase_byQ:Nat:=138
abbrev erase_Solve:Nat:=103
abbrev row_Take:Nat:=55
abbrev stripe_Read:Nat:=37
abbrev place_number:Nat:=112
abbrev place_Numbers:Nat:=65
abbrev stripe_One:Nat:=28
abbrev window_Read:Nat:=40
abbrev row_sectors:Nat:=104
abbrev row_Fill:Nat:=56
abbrev disk_Disk_Clone:Nat:=51
abbrev disk_Disk_Write:Nat:=116
abbrev bench_counter_count:Nat:=117
abbrev bench_Bench_Write:Nat:=77
abbrev stripe_Write:Nat:=89
abbrev disk_Disk_Flush:Nat:=150
abbrev bench_Bench_Flush:Nat:=118
abbrev stripe_Flush:Nat:=90
abbrev window_Write:Nat:=42
abbrev disk_Disk_Pending:Nat:=60
abbrev wattleref01_Span:Nat:=41
abbrev wattleref01_Numbers:Nat:=25
abbrev wattlelaw14_Data:Nat:=24
abbrev wattlekeep_Same_byte:Nat:=22
abbrev wattlelaw20_wakes:Nat:=44
abbrev disk_Disk_Fail:Nat:=75
abbrev bench_Bench_Fail:Nat:=34
abbrev bench_Bench_Pending:Nat:=26
abbrev wattlelaw20_WindowMoves:Nat:=7
end ID
abbrev kB:Nat:=2496
abbrev kD:Nat:=8225
end Wf

namespace Wf
open Go Go.RowKit
set_option linter.unusedSimpArgs false
set_option linter.unusedVariables false
def hD (i:Nat):D:=.h kD i 0
def bRow (B:Ben) (idx:List Nat):List D:=[.int .i64 B.w,.int .i64 B.left,.bool B.down,.sl .own (idx.map hD)]
def putL:Tb→List Nat→Tb→Tb
 | T,i::is,c::cs=>(putL T is cs).set i c
 | T,_,_=>T
theorem zoD:∀ (T:Tb) (is:List Nat) (cs:Tb),(putL T is cs).length=T.length
 | T,i::is,c::cs=>by show ((putL T is cs).set i c).length=_; rw [List.length_set,zoD T is cs]
 | T,[],_=>by unfold putL; rfl
 | T,_::_,[]=>by unfold putL; rfl
theorem zuD {i:Nat}:∀ (T:Tb) (is:List Nat) (cs:Tb),i ∉ is→(putL T is cs)[i]? =T[i]?
 | T,j::is,c::cs,h=>by
  show ((putL T is cs).set j c)[i]? =_
  rw [List.getElem?_set,if_neg (by intro e; exact h (by rw [e]; exact List.mem_cons_self ..)),zuD T is cs (fun hi=>h (List.mem_cons_of_mem _ hi))]
 | T,[],_,_=>by unfold putL; rfl
 | T,_::_,[],_=>by unfold putL; rfl
theorem zAa:∀ {T:Tb} {is:List Nat} {cs:Tb} {j i:Nat} {c:List D},is.Nodup→is[j]? =some i→cs[j]? =some c→i < T.length→(putL T is cs)[i]? =some c
 | T,i0::is,c0::cs,0,i,c,_,h1,h2,h3=>by
  cases h1; cases h2;show ((putL T is cs).set i0 c0)[i0]? =_
  rw [List.getElem?_set,if_pos rfl,zoD,if_pos h3]
 | T,i0::is,c0::cs,j+1,i,c,h,h1,h2,h3=>by
  have hn:=List.nodup_cons.1 h;show ((putL T is cs).set i0 c0)[i]? =_
  rw [List.getElem?_set,if_neg (by intro e; exact hn.1 (by rw [e]; exact List.mem_of_getElem? h1))]
  exact zAa hn.2 h1 h2 h3
theorem zAb:∀ {T:Tb} {is:List Nat} {cs:Tb} {j i:Nat} {c:List D},is.Nodup→is[j]? =some i→j < cs.length→(putL T is cs).set i c=putL T is (cs.set j c)
 | T,i0::is,c0::cs,0,i,c,_,h1,_=>by
  cases h1;show ((putL T is cs).set i0 c0).set i0 c=(putL T is cs).set i0 c
  rw [List.set_set]
 | T,i0::is,c0::cs,j+1,i,c,h,h1,h2=>by
  have hn:=List.nodup_cons.1 h;show ((putL T is cs).set i0 c0).set i c=(putL T is (cs.set j c)).set i0 c0
  rw [List.set_comm _ _ (by intro e; exact hn.1 (by rw [e]; exact List.mem_of_getElem? h1)),zAb hn.2 h1 (by simpa using h2)]
 | T,i0::is,[],j,i,c,_,_,h2=>by cases h2
def P0 (T0:Tb) (b:Nat) (idx:List Nat) (B:Ben):Tb:=T0.set b (bRow B idx)
def P1 (T1:Tb) (idx:List Nat) (B:Ben):Tb:=putL T1 idx (B.ds.map DS.cells)++B.g
structure At (T0 T1:Tb) (b:Nat) (idx:List Nat) (B:Ben):Prop where
 b:b < T0.length
 nd:idx.Nodup
 lt:∀ i∈idx,i < T1.length
 len:idx.length=B.ds.length
 ok:B.Ok
def ix (idx:List Nat) (d:Int):Nat:=idx.getD d.toNat 0
section
variable {T0 T1:Tb} {b:Nat} {idx:List Nat} {B:Ben}
theorem At.nx {B':Ben} {K:Int} (h:At T0 T1 b idx B) (hx:Nx K B B'):At T0 T1 b idx B':=⟨h.b,h.nd,h.lt,by
 have:=hx.n;unfold Ben.n at this;rw [h.len]; omega,hx.ok⟩
theorem At.get0 (h:At T0 T1 b idx B):(P0 T0 b idx B)[b]? =some (bRow B idx):=by
 unfold P0;rw [List.getElem?_set,if_pos rfl,if_pos h.b]
theorem zIb (B':Ben):(P0 T0 b idx B).set b (bRow B' idx)=P0 T0 b idx B':=by unfold P0; rw [List.set_set]
theorem At.ixl (h:At T0 T1 b idx B) {d:Int} (hd:B.is d=true):idx[d.toNat]? =some (ix idx d):=by
 obtain ⟨h0,h1⟩:=zfN.1 hd;unfold Ben.n at h1;have hl:=h.len;unfold ix
 rw [List.getD_eq_getElem?_getD,List.getElem?_eq_getElem (by omega)]; rfl
theorem At.hd (h:At T0 T1 b idx B) {d:Int} (hd:B.is d=true):(idx.map hD)[d.toNat]? =some (.h kD (ix idx d) 0):=by
 rw [List.getElem?_map,h.ixl hd]; rfl
theorem At.dks (h:At T0 T1 b idx B) {d:Int} (hd:B.is d=true):(B.ds.map DS.cells)[d.toNat]? =some (B.dk d).cells:=by
 obtain ⟨h0,h1⟩:=zfN.1 hd;unfold Ben.n at h1;unfold Ben.dk
 rw [List.getElem?_map,List.getElem?_eq_getElem (by omega)]; rfl
theorem At.ltp (h:At T0 T1 b idx B) {d:Int} (hd:B.is d=true):ix idx d < (putL T1 idx (B.ds.map DS.cells)).length:=by
 rw [zoD]; exact h.lt _ (List.mem_of_getElem? (h.ixl hd))
theorem At.get1 (h:At T0 T1 b idx B) {d:Int} (hd:B.is d=true):(P1 T1 idx B)[ix idx d]? =some (B.dk d).cells:=by
 unfold P1;rw [List.getElem?_append_left (h.ltp hd)];exact zAa h.nd (h.ixl hd) (h.dks hd) (h.lt _ (List.mem_of_getElem? (h.ixl hd)))
theorem At.set1 (h:At T0 T1 b idx B) {d:Int} (hd:B.is d=true) (s:DS):(P1 T1 idx B).set (ix idx d) s.cells=P1 T1 idx (B.setD d s):=by
 obtain ⟨h0,h1⟩:=zfN.1 hd;unfold Ben.n at h1;unfold P1
 rw [List.set_append_left _ _ (h.ltp hd),zAb h.nd (h.ixl hd) (by rw [List.length_map]; omega)]
 unfold Ben.setD;dsimp only;rw [List.map_set]
theorem zGL (s:DS):P1 T1 idx B++[s.cells]=P1 T1 idx (B.junk s):=by unfold P1 Ben.junk; rw [List.append_assoc]
theorem zIc:(P1 T1 idx B).length=T1.length+B.g.length:=by unfold P1; rw [List.length_append,zoD]
theorem zId:(P0 T0 b idx B).length=T0.length:=by unfold P0; rw [List.length_set]
theorem zCN (h:T0[b]? =some (bRow B idx)):P0 T0 b idx B=T0:=by
 unfold P0;apply List.ext_getElem?;intro j;rw [List.getElem?_set];split
 ·rename_i e; subst e; rw [h]; simp [za4 h]
 ·rfl
theorem zsB:∀ {T:Tb} {is:List Nat} {cs:Tb},(∀ (j i:Nat) (c:List D),is[j]? =some i→cs[j]? =some c→T[i]? =some c)→putL T is cs=T
 | T,i::is,c::cs,h=>by
  show (putL T is cs).set i c=T
  rw [zsB (fun j i c h1 h2=>h (j+1) i c h1 h2)]
  have:=h 0 i c rfl rfl;apply List.ext_getElem?;intro j;rw [List.getElem?_set];split
  ·rename_i e; subst e; rw [this]; simp [za4 this]
  ·rfl
 | T,[],_,_=>by unfold putL; rfl
 | T,_::_,[],_=>by unfold putL; rfl
end
end Wf

namespace Wf
open Go Go.RowKit
set_option linter.unusedSimpArgs false
set_option linter.unusedVariables false
inductive Act
 | w (d a:Int) (x:List Int)
 | f (d:Int)
def Ben.act (B:Ben):Act→Int×Ben
 | .w d a x=>B.write d a x
 | .f d=>B.flush d
def runA:List Act→Ben→Int×Ben
 | [],B=>(0,B)
 | a::ay_,B=>if (B.act a).1=0 then runA ay_ (B.act a).2 else B.act a
theorem zlf (a:Act) (ay_:List Act) (B:Ben):runA (a::ay_) B=if (B.act a).1=0 then runA ay_ (B.act a).2 else B.act a:=rfl
theorem znu:∀ (ay_ bs:List Act) (B:Ben),runA (ay_++bs) B=if (runA ay_ B).1=0 then runA bs (runA ay_ B).2 else runA ay_ B
 | [],bs,B=>by simp [runA]
 | a::ay_,bs,B=>by
  rw [List.cons_append,zlf,zlf]
  by_cases h:(B.act a).1=0
  ·rw [if_pos h,if_pos h]; exact znu ay_ bs _
  ·rw [if_neg h,if_neg h,if_neg h]
def Ben.cur (B:Ben) (d a:Int):List Int:=(B.dk d).sec a
def Act.Ok (B:Ben):Act→Prop
 | .w d a x=>B.is d=true∧B.failed d=false∧0≤a∧a < 52∧Sec x
 | .f d=>B.is d=true∧B.failed d=false
def Ben.does1 (B:Ben):Act→Ben
 | .w d a x=>((B.junk ((B.dk d).write a x).2).less).setD d ((B.dk d).add a x)
 | .f d=>B.setD d (B.dk d).flushed
def Act.isW:Act→Bool
 | .w _ _ _=>true
 | .f _=>false
section
variable {B:Ben}
theorem ziZ {d:Int} (h:B.is d=true):B.failed d=(B.dk d).failed:=by unfold Ben.failed; rw [h]; rfl
theorem zEv {a:Act} (h:a.Ok B) (hd:B.down=false) (hl:a.isW=true→B.left≠0):B.act a=(0,B.does1 a):=by
 cases a with
 | w d a x=>
  obtain ⟨h1,h2,h3,h4,h5⟩:=h;have hm:B.may d=0:=may0.2 ⟨h1,hd⟩
  have hw:(B.dk d).mayW a x=0:=zCJ (znt.2 ⟨by rw [←ziZ h1]; exact h2,h3,h4⟩) h5.len
  unfold Ben.act Ben.write Ben.does1
  simp only [hm,hw,if_neg (hl rfl),ne_eq,not_true,if_false]
 | f d=>
  obtain ⟨h1,h2⟩:=h;have hm:B.may d=0:=may0.2 ⟨h1,hd⟩
  have hf:(B.dk d).failed=false:=by rw [←ziZ h1]; exact h2
  unfold Ben.act Ben.flush Ben.does1 DS.flush;simp [hm,hf]
@[simp] theorem zGM (a:Act):(B.does1 a).n=B.n:=by cases a<;>simp [Ben.does1]
@[simp] theorem zuE (a:Act):(B.does1 a).down=B.down:=by cases a<;>rfl
@[simp] theorem zvM (a:Act) (d:Int):(B.does1 a).is d=B.is d:=by unfold Ben.is; rw [zGM]
theorem zlg {a:Act} (hB:B.Ok) (h:a.Ok B) (d:Int):(B.does1 a).failed d=B.failed d:=by
 unfold Ben.failed;rw [zvM];cases hd:B.is d
 ·rfl
 ·have h0:=(zfN.1 hd).1;simp only [Bool.true_and]
  cases a with
  | w e a x=>
   unfold Ben.does1
   rw [zhw (by simpa using h.1) h0]
   split
   ·rename_i e; subst e; rfl
   ·rfl
  | f e=>
   unfold Ben.does1;rw [zhw h.1 h0];split
   ·rename_i e; subst e; exact zm0 (zmv hB _).1
   ·rfl
theorem zrp {a:Act} (hB:B.Ok) (h:a.Ok B) {c:Act} (hc:c.Ok B):c.Ok (B.does1 a):=by
 cases c with
 | w d e x=>obtain ⟨h1,h2,h3⟩:=hc; exact ⟨by rw [zvM]; exact h1,by rw [zlg hB h]; exact h2,h3⟩
 | f d=>obtain ⟨h1,h2⟩:=hc; exact ⟨by rw [zvM]; exact h1,by rw [zlg hB h]; exact h2⟩
theorem zmk {a:Act} (hB:B.Ok) (h:a.Ok B):Nx 1 B (B.does1 a):=by
 cases a with
 | w d a x=>
  obtain ⟨h1,h2,h3,h4,h5⟩:=h;have hk:=zmv hB d
  refine ⟨zpH (zCM (zsA hB _)) (zFH hk.1 (by rw [←ziZ h1]; exact h2) h5 h3 h4) ?_,by simp [Ben.does1],?_,?_⟩
  ·have:=hk.2;show (((B.dk d).pend++[(a,x)]).length:Int)≤B.w+1;simp; omega
  ·show B.w≤B.w+1; omega
  ·show B.w+1≤B.w+1; omega
 | f d=>exact ⟨zpH hB (zuB (zmv hB d).1) hB.w0,by simp [Ben.does1],by simp [Ben.does1],by simp [Ben.does1]; omega⟩
def Act.cur (c:Int→Int→List Int):Act→Int→Int→List Int
 | .w d a x,e,b=>if e=d∧b=a then x else c e b
 | .f _,e,b=>c e b
theorem zCO {a:Act} (hB:B.Ok) (h:a.Ok B) {e b:Int} (e0:0≤e) (b0:0≤b) (b1:b < 52):(B.does1 a).cur e b=a.cur B.cur e b:=by
 cases a with
 | w d a x=>
  show (((B.junk ((B.dk d).write a x).2).less.setD d ((B.dk d).add a x)).dk e).sec b=if e=d∧b=a then x else (B.dk e).sec b
  rw [zhw (by simpa using h.1) e0]
  by_cases he:e=d
  ·subst he;rw [if_pos rfl];show look ((B.dk e).pend++[(a,x)]) b ((B.dk e).base b.toNat)=_;rw [zCI];dsimp only
   by_cases hb:b=a
   ·subst hb; rw [if_pos rfl,if_pos ⟨rfl,rfl⟩]
   ·rw [if_neg (fun e=>hb e.symm),if_neg (fun e=>hb e.2)]; rfl
  ·rw [if_neg he,if_neg (fun e=>he e.1)]; rfl
 | f d=>
  show ((B.setD d (B.dk d).flushed).dk e).sec b=(B.dk e).sec b;rw [zhw h.1 e0]
  by_cases he:e=d
  ·subst he; rw [if_pos rfl]; exact zyS (zmv hB _).1 b0 b1
  ·rw [if_neg he]
end
def does (B:Ben) (ay_:List Act):Ben:=ay_.foldl Ben.does1 B
def curs (c:Int→Int→List Int) (ay_:List Act):Int→Int→List Int:=ay_.foldl Act.cur c
def nW (ay_:List Act):Nat:=(ay_.filter Act.isW).length
theorem zsC (B:Ben) (ay_ bs:List Act):does B (ay_++bs)=does (does B ay_) bs:=List.foldl_append ..
theorem znv (c:Int→Int→List Int) (ay_ bs:List Act):curs c (ay_++bs)=curs (curs c ay_) bs:=List.foldl_append ..
theorem zsD (ay_ bs:List Act):nW (ay_++bs)=nW ay_+nW bs:=by simp [nW]
theorem zCP (a:Act) (ay_:List Act):nW (a::ay_)=(if a.isW then 1 else 0)+nW ay_:=by
 unfold nW;rw [List.filter_cons];split<;>simp<;>omega
structure Does (B:Ben) (ay_:List Act):Prop where
 nx:Nx (nW ay_) B (does B ay_)
 run:runA ay_ B=(0,does B ay_)
 down:(does B ay_).down=B.down
 failed:∀ d,(does B ay_).failed d=B.failed d
 cur:∀ e b:Int,0≤e→0≤b→b < 52→(does B ay_).cur e b=curs B.cur ay_ e b
 left:(does B ay_).left=if B.left < 0 then B.left else B.left - nW ay_
theorem zoE:∀ (ay_:List Act) {B:Ben},B.Ok→B.down=false→(∀ a∈ay_,a.Ok B)→(B.left < 0∨(nW ay_:Int)≤B.left)→Does B ay_
 | [],B,hB,hd,_,_=>⟨.rfl' hB (by omega),rfl,rfl,fun _=>rfl,fun _ _ _ _ _=>rfl,by simp [does,nW]⟩
 | a::ay_,B,hB,hd,hA,hl=>by
  have ha:=hA a (List.mem_cons_self ..);have hn:=zCP a ay_
  have hleft:(B.does1 a).left=if a.isW=true∧0 < B.left then B.left - 1 else B.left:=by
   cases a with
   | w d a x=>show (if 0 < B.left then B.left - 1 else B.left)=_; simp [Act.isW]
   | f d=>simp [Act.isW,Ben.does1]
  have hact:B.act a=(0,B.does1 a):=zEv ha hd fun hw=>by rw [hw] at hn; simp at hn; omega
  have hnx:Nx (if a.isW=true then 1 else 0) B (B.does1 a):=by
   cases a with
   | w d a x=>exact zmk hB ha
   | f d=>exact ⟨(zmk hB ha).ok,(zmk hB ha).n,(zmk hB ha).le,by simp [Ben.does1]; split<;>omega⟩
  have ih:=zoE ay_ (B:=B.does1 a) hnx.ok (by rw [zuE]; exact hd) (fun c hc=>zrp hB ha (hA c (List.mem_cons_of_mem _ hc))) (by
   rw [hleft];cases hw:a.isW
   ·rw [hw] at hn; simp at hn ⊢; omega
   ·rw [hw] at hn; simp at hn ⊢; split<;>omega)
  refine ⟨(hnx.trans ih.nx).mono (by rw [hn]; split<;>simp),?_,ih.down.trans (zuE a),fun d=>(ih.failed d).trans (zlg hB ha d),fun e b e0 b0 b1=>?_,?_⟩
  ·show (if (B.act a).1=0 then runA ay_ (B.act a).2 else B.act a)=_
   rw [hact,if_pos rfl]; exact ih.run
  ·show (does (B.does1 a) ay_).cur e b=curs (a.cur B.cur) ay_ e b;rw [ih.cur e b e0 b0 b1]
   have:∀ (ay_:List Act) (c c':Int→Int→List Int),(∀ e b,0≤e→0≤b→b < 52→c e b=c' e b)→∀ e b:Int,0≤e→0≤b→b < 52→curs c ay_ e b=curs c' ay_ e b:=by
    intro ay_
    induction ay_ with
    | nil=>intro c c' h e b e0 b0 b1; exact h e b e0 b0 b1
    | cons a ay_ ih=>
     intro c c' h e b e0 b0 b1
     refine ih (a.cur c) (a.cur c') (fun e b e0 b0 b1=>?_) e b e0 b0 b1
     cases a with
     | w d a x=>unfold Act.cur; dsimp only; split; rfl; exact h e b e0 b0 b1
     | f d=>exact h e b e0 b0 b1
   exact this ay_ _ _ (fun e b e0 b0 b1=>zCO hB ha e0 b0 b1) e b e0 b0 b1
  ·show (does (B.does1 a) ay_).left=_;rw [ih.left,hleft];cases hw:a.isW
   ·rw [hw] at hn; simp at hn ⊢; rw [hn]
   ·rw [hw] at hn; simp at hn ⊢;rw [hn]
    by_cases h0:B.left < 0
    ·simp [h0,show ¬ 0 < B.left by omega]
    ·by_cases h1:0 < B.left
     ·simp [h0,h1,show ¬ B.left - 1 < 0 by omega]; omega
     ·exfalso; omega
def Act.at (a:Act) (d b:Int):Bool:=match a with
 | .w e c _=>decide (e=d∧c=b)
 | .f _=>false
theorem zi0 {ay_:List Act} {d b:Int} (h:∀ a∈ay_,a.at d b=false) (c:Int→Int→List Int):curs c ay_ d b=c d b:=by
 induction ay_ generalizing c with
 | nil=>rfl
 | cons a ay_ ih=>
  show curs (a.cur c) ay_ d b=_
  rw [ih (fun a ha=>h a (List.mem_cons_of_mem _ ha))]
  have:=h a (List.mem_cons_self ..)
  cases a with
  | w e f x=>
   unfold Act.at at this;simp at this
   show (if d=e∧b=f then x else c d b)=c d b
   rw [if_neg (by rintro ⟨rfl,rfl⟩; exact this rfl rfl)]
  | f e=>rfl
theorem zCQ {ay_ bs:List Act} {d b:Int} {x:List Int} (h:∀ a∈bs,a.at d b=false) (c:Int→Int→List Int):curs c (ay_++.w d b x::bs) d b=x:=by
 rw [znv];show curs (Act.cur _ (.w d b x)) bs d b=x;rw [zi0 h]
 show (if d=d∧b=b then x else curs c ay_ d b)=x
 rw [if_pos ⟨rfl,rfl⟩]
end Wf

namespace Wf
open Go Go.RowKit
set_option linter.unusedSimpArgs false
set_option linter.unusedVariables false
theorem zxw:∃ m,fuel=m+40:=⟨fuel - 40,by have:=zpu; omega⟩
def zdL (l d c:Int):Bool:=(l == 5 || l == 6) && decide ((if l=6 then 4 else 3)≤d) && decide (d≤8) && (c == 1 || c == 2 || c == 4)
def znw (l d c:Int):Int:=if zdL l d c then l - 4 else 0
def zhx (l d c:Int):Int:=if zdL l d c then d - (l - 4) else 0
def capG (l d c:Int):Int:=zhx l d c*16
def canG (l d c x y z:Int):Bool:=zdL l d c && zdL x y z && !(l == x && (d == y && c == z)) && decide (d≤y) && decide (l≤x) && decide (zhx l d c≤zhx x y z)
theorem zfo {l d c:Int}:zdL l d c=true↔((l=5∧3≤d)∨(l=6∧4≤d))∧d≤8∧(c=1∨c=2∨c=4):=by
 unfold zdL;simp only [Bool.and_eq_true,Bool.or_eq_true,beq_iff_eq,decide_eq_true_eq];constructor
 ·rintro ⟨⟨⟨h1,h2⟩,h3⟩,h4⟩
  refine ⟨?_,h3,by omega⟩
  split at h2<;>omega
 ·rintro ⟨h1,h3,h4⟩
  refine ⟨⟨⟨by omega,?_⟩,h3⟩,by omega⟩
  split<;>omega
theorem zEw (l d c:Int):0≤zhx l d c∧zhx l d c≤8:=by
 unfold zhx;split
 ·rename_i h; have:=zfo.1 h; omega
 ·omega
abbrev gD (l d c:Int):D:=.agg [.int .i64 l,.int .i64 d,.int .i64 c]
theorem zA4 (a n:Int) (h:1≤n):(0≤a.tmod n∧a % n=a.tmod n)∨(a.tmod n < 0∧a % n=a.tmod n+n):=by
 by_cases ha:a < 0
 ·have h4:a.tmod n= - ((-a) % n):=by rw [show a= -(-a) by omega,Int.neg_tmod,Int.tmod_eq_emod_of_nonneg (by omega)]; simp
  have h5:=Int.emod_nonneg (-a) (show n≠0 by omega)
  have h6:=Int.emod_lt_of_pos (-a) (show 0 < n by omega)
  by_cases h7:(-a) % n=0
  ·left
   refine ⟨by omega,?_⟩
   have:n ∣ a:=by
    have:=Int.dvd_of_emod_eq_zero h7;exact (Int.dvd_neg).1 this
   rw [Int.emod_eq_zero_of_dvd this]; omega
  ·right
   refine ⟨by omega,?_⟩
   rw [h4]
   have:a % n=(n - (-a) % n) % n:=by
    rw [Int.sub_emod,Int.emod_emod_of_dvd _ (Int.dvd_refl n),←Int.sub_emod,Int.sub_neg,Int.add_emod,Int.emod_self]; simp
   rw [this,Int.emod_eq_of_lt (by omega) (by omega)]; omega
 ·left
  rw [Int.tmod_eq_emod_of_nonneg (by omega)]
  exact ⟨Int.emod_nonneg a (show n≠0 by omega),rfl⟩
def qn (n k:Int):Int:=IntKind.i64.wrap (n.tdiv k)
theorem zAc (q:Int) (h0:0≤q) (h3:q < 3) {R:Type} (f:D→Option R):getK [D.int .i64 1,D.int .i64 2,D.int .i64 4] q.toNat f=f (iD (if q=0 then 1 else if q=1 then 2 else 4)):=by
 have:q=0∨q=1∨q=2:=by omega
 rcases this with rfl | rfl | rfl<;>rfl
structure Geo where
 l:Int
 d:Int
 c:Int
 deriving DecidableEq
def Geo.D (g:Geo):Wf.D:=gD g.l g.d g.c
def Geo.ok (g:Geo):Bool:=zdL g.l g.d g.c
def Geo.can (x y:Geo):Bool:=canG x.l x.d x.c y.l y.d y.c
theorem zjG {x y:Geo}:x.can y=true↔x.ok=true∧y.ok=true∧x≠y∧x.d≤y.d∧x.l≤y.l∧zhx x.l x.d x.c≤zhx y.l y.d y.c:=by
 unfold Geo.can canG Geo.ok;obtain ⟨l,d,c⟩:=x;obtain ⟨l',d',c'⟩:=y;simp only [Bool.and_eq_true,Bool.not_eq_true',Bool.and_eq_false_iff,beq_eq_false_iff_ne,decide_eq_true_eq,ne_eq,Geo.mk.injEq];constructor
 ·rintro ⟨⟨⟨⟨⟨h1,h2⟩,h3⟩,h4⟩,h5⟩,h6⟩
  exact ⟨h1,h2,by rintro ⟨rfl,rfl,rfl⟩; simp at h3,h4,h5,h6⟩
 ·rintro ⟨h1,h2,h3,h4,h5,h6⟩
  refine ⟨⟨⟨⟨⟨h1,h2⟩,?_⟩,h4⟩,h5⟩,h6⟩
  by_cases e1:l=l'
  ·by_cases e2:d=d'
   ·exact .inr (.inr fun e3=>h3 ⟨e1,e2,e3⟩)
   ·exact .inr (.inl e2)
  ·exact .inl e1
def Geo.width (g:Geo):Int:=zhx g.l g.d g.c
def Geo.cap (g:Geo):Int:=capG g.l g.d g.c
def zaS (x y:Geo):Int:=if x.can y then max x.c y.c else 0
def winP (x y:Geo):Int:=if x.can y then 16 / max x.c y.c else 0
def zbC (x y:Geo) (k:Int):Int×Int:=if k < 0∨winP x y≤k then (0,0) else (k*(zaS x y*y.width),(k+1)*(zaS x y*y.width))
theorem zdE {g:Geo}:g.ok=true↔((g.l=5∧3≤g.d)∨(g.l=6∧4≤g.d))∧g.d≤8∧(g.c=1∨g.c=2∨g.c=4):=zfo
theorem zml {g:Geo} (h:g.ok=true):g.width=g.d - (g.l - 4):=by exact if_pos h
theorem zbL {g:Geo} (h:g.ok=true):2≤g.width∧g.width≤7:=by
 rw [zml h]; have:=zdE.1 h; omega
theorem zCR {g:Geo}:g.cap=g.width*16:=rfl
theorem zlh {x y:Geo} (h:x.can y=true):zaS x y=max x.c y.c∧(zaS x y=1∨zaS x y=2∨zaS x y=4):=by
 have h1:=zdE.1 (zjG.1 h).1;have h2:=zdE.1 (zjG.1 h).2.1;unfold zaS; rw [if_pos h]
 exact ⟨rfl,by omega⟩
theorem zxx {x y:Geo} (h:x.can y=true):winP x y=16 / zaS x y∧(winP x y=4∨winP x y=8∨winP x y=16)∧winP x y*zaS x y=16:=by
 have h1:=zlh h
 have h2:winP x y=16 / zaS x y:=by unfold winP zaS; rw [if_pos h,if_pos h]
 rw [h2];rcases h1.2 with e | e | e<;>rw [e]<;>simp
theorem znx {x y:Geo} (h:x.can y=false):zaS x y=0∧winP x y=0:=by unfold zaS winP; simp [h]
theorem zAd {x y:Geo} {k:Int} (h:x.can y=true) (h0:0≤k) (h1:k≤winP x y):
  IntKind.i64.wrap (zaS x y*y.width)=zaS x y*y.width∧IntKind.i64.wrap (k*(zaS x y*y.width))=k*(zaS x y*y.width)∧
  IntKind.i64.wrap (k+1)=k+1∧IntKind.i64.wrap ((k+1)*(zaS x y*y.width))=(k+1)*(zaS x y*y.width)∧
  IntKind.i64.wrap (k*zaS x y)=k*zaS x y∧IntKind.i64.wrap (k*zaS x y*y.width)=k*zaS x y*y.width:=by
 obtain ⟨_,h2⟩:=zlh h;obtain ⟨_,h4,_⟩:=zxx h;have h3:=zbL (zjG.1 h).2.1;generalize y.width=w at*;generalize winP x y=n at*
 have hw:w=2∨w=3∨w=4∨w=5∨w=6∨w=7:=by omega
 rcases h2 with e | e | e<;>rw [e]<;>rcases hw with rfl | rfl | rfl | rfl | rfl | rfl<;>
  refine ⟨zah (by omega) (by omega),zah (by omega) (by omega),zah (by omega) (by omega),zah (by omega) (by omega),zah (by omega) (by omega),zah (by omega) (by omega)⟩
def zcv (g:Geo) (row:Int):Bool:=g.ok && decide (0≤row) && decide (row < 16)
def parA (g:Geo) (row:Int):Int:=g.d - 1 - (row / g.c) % g.d
def parP (g:Geo) (row:Int):Int×Int:=if zcv g row then (parA g row,if g.l=5 then -1 else (parA g row+1) % g.d) else (-1,-1)
def zc7 (g:Geo) (row k:Int):Int:=if zcv g row∧0≤k∧k < g.width then (parA g row+(g.l - 4)+k) % g.d else -1
def rowG (g:Geo) (a:Int):Int:=a / g.c / g.width*g.c+a % g.c
def zdq (g:Geo) (a:Int):Int:=a / g.c % g.width
def ofP (g:Geo) (a:Int):Int×Int×Bool:=if 0≤a∧a < g.cap then (zc7 g (rowG g a) (zdq g a),rowG g a,true) else (0,0,false)
def numP (g:Geo) (row k:Int):Int:=(row / g.c*g.width+k)*g.c+row % g.c
def ofD (t:Int×Int×Bool):D:=.tup [iD t.1,iD t.2.1,.bool t.2.2]
theorem zbm {g:Geo} {row:Int}:zcv g row=true↔g.ok=true∧0≤row∧row < 16:=by
 unfold zcv; simp [and_assoc]
theorem ok_d {g:Geo} (h:g.ok=true):3≤g.d∧g.d≤8∧1≤g.c∧g.c≤4:=by have:=zdE.1 h; omega
theorem zuF {g:Geo} {a:Int} (h0:0≤a) (h1:a < g.cap):g.ok=true:=by
 cases h:g.ok
 ·have:g.cap=0:=by unfold Geo.cap capG zhx; unfold Geo.ok at h; simp [h]
  omega
 ·rfl
theorem zxy {g:Geo} (h:g.ok=true):znw g.l g.d g.c=g.l - 4:=if_pos h
theorem zGN {g:Geo} {a:Int} (h:g.ok=true) (h0:0≤a):0≤a / g.c∧a / g.c≤a∧0≤a % g.c∧a % g.c < 4∧a % g.c < g.c∧a / g.c*g.c+a % g.c=a:=by
 obtain ⟨_,_,hc⟩:=zdE.1 h;generalize g.c=c at hc;rcases hc with rfl | rfl | rfl<;>omega
theorem zAe {g:Geo} {a:Int} (h:g.ok=true) (h0:0≤a):a.tdiv g.c=a / g.c:=Int.tdiv_eq_ediv_of_nonneg h0
theorem zoF {a n:Int} (h0:0≤a):a.tmod n=a % n:=Int.tmod_eq_emod_of_nonneg h0
theorem zEx {g:Geo} (h:g.ok=true) (n:Int):0≤n % g.d∧n % g.d < g.d:=⟨Int.emod_nonneg _ (by have:=ok_d h; omega),Int.emod_lt_of_pos _ (by have:=ok_d h; omega)⟩
theorem zm1 {g:Geo} (h:g.ok=true) (row:Int):0≤parA g row∧parA g row < g.d:=by
 have:=zEx h (row / g.c);unfold parA; omega
theorem zGO {g:Geo} (h:g.ok=true) (n:Int):0≤n % g.width∧n % g.width < g.width:=⟨Int.emod_nonneg _ (by have:=zbL h; omega),Int.emod_lt_of_pos _ (by have:=zbL h; omega)⟩
theorem zrq {g:Geo} {a:Int} (h0:0≤a) (h1:a < g.cap):0≤rowG g a∧rowG g a < 16∧0≤a / g.c / g.width∧a / g.c / g.width*g.c < 16:=by
 have hk:=zuF h0 h1;have hw:=zbL hk;have hc:=(zdE.1 hk).2.2;rw [zCR] at h1;unfold rowG;generalize g.c=c at*;generalize g.width=w at*
 have hw:w=2∨w=3∨w=4∨w=5∨w=6∨w=7:=by omega
 rcases hc with rfl | rfl | rfl<;>rcases hw with rfl | rfl | rfl | rfl | rfl | rfl<;>omega
def numD (g:Geo) (row:Int) (n:Nat):List D:=(List.range n).map fun (j:Nat)=>iD (numP g row (j:Int))
def zoG (g:Geo) (row:Int):List D:=if zcv g row then numD g row g.width.toNat else []
def zf0 (g:Geo) (disk row:Int):Int:=(disk - parA g row - (g.l - 4)+2*g.d) % g.d
theorem zxz (g:Geo) (row:Int) (n:Nat):numD g row (n+1)=numD g row n++[iD (numP g row (n:Int))]:=by
 unfold numD; rw [List.range_succ,List.map_append]; rfl
theorem zfp (g:Geo) (row:Int) (n:Nat):(numD g row n).length=n:=by unfold numD; simp
theorem zxA (g:Geo) (row:Int) (n:Nat):(numD g row n).all D.free=true:=by
 unfold numD; rw [List.all_eq_true]; intro x hx; obtain ⟨j,_,rfl⟩:=List.mem_map.1 hx; rfl
theorem zoH (g:Geo) (row:Int) (n:Nat) {i:Nat} (h:i < n):(numD g row n)[i]? =some (iD (numP g row (i:Int))):=by
 unfold numD; simp [h]
theorem zCS {g:Geo} {row k:Int} (hk:g.ok=true) (h0:0≤row) (h1:row < 16) (k0:0≤k) (k1:k≤8):
  IntKind.i64.wrap (row.tdiv g.c)=row / g.c∧IntKind.i64.wrap (row / g.c*g.width)=row / g.c*g.width∧IntKind.i64.wrap (row / g.c*g.width+k)=row / g.c*g.width+k∧
  IntKind.i64.wrap ((row / g.c*g.width+k)*g.c)=(row / g.c*g.width+k)*g.c∧IntKind.i64.wrap ((row / g.c*g.width+k)*g.c+row.tmod g.c)=numP g row k:=by
 have hw:=zbL hk;have hc:=(zdE.1 hk).2.2;rw [zAe hk h0,zoF h0];unfold numP;generalize g.c=c at*;generalize g.width=w at*
 have hw:w=2∨w=3∨w=4∨w=5∨w=6∨w=7:=by omega
 rcases hc with rfl | rfl | rfl<;>rcases hw with rfl | rfl | rfl | rfl | rfl | rfl<;>
  exact ⟨zah (by omega) (by omega),zah (by omega) (by omega),zah (by omega) (by omega),zah (by omega) (by omega),zah (by omega) (by omega)⟩
theorem zIe {g:Geo} {row k:Int} (hk:g.ok=true) (h0:0≤row) (h1:row < 16) (k0:0≤k) (k1:k < g.width):0≤numP g row k∧numP g row k < g.cap:=by
 have hw:=zbL hk;have hc:=(zdE.1 hk).2.2;rw [zCR];unfold numP;generalize g.c=c at*;generalize g.width=w at*
 have hw:w=2∨w=3∨w=4∨w=5∨w=6∨w=7:=by omega
 rcases hc with rfl | rfl | rfl<;>rcases hw with rfl | rfl | rfl | rfl | rfl | rfl<;>omega
theorem zpI {g:Geo} {row k:Int} (h:zcv g row=true) (k0:0≤k) (k1:k < g.width):zc7 g row k=(parA g row+(g.l - 4)+k) % g.d:=by
 unfold zc7; rw [if_pos ⟨h,k0,k1⟩]
theorem zjH {g:Geo} {row k:Int} (h:zcv g row=true) (k0:0≤k) (k1:k < g.width):0≤zc7 g row k∧zc7 g row k < g.d:=by
 rw [zpI h k0 k1]; exact zEx (zbm.1 h).1 _
theorem zAf {g:Geo} {row k:Int} (h:zcv g row=true) (k0:0≤k) (k1:k < g.width):zc7 g row k≠(parP g row).1∧zc7 g row k≠(parP g row).2:=by
 have hk:=(zbm.1 h).1;have hd:=zjH h k0 k1;rw [zpI h k0 k1] at*;have hp:=zm1 hk row;have hl:=zdE.1 hk;rw [zml hk] at k1;unfold parP;rw [if_pos h];simp only;generalize parA g row=p at*
 have hdc:g.d=3∨g.d=4∨g.d=5∨g.d=6∨g.d=7∨g.d=8:=by omega
 generalize g.d=d at*;generalize g.l=l at*
 have hl5:l=5∨l=6:=by omega
 rcases hl5 with rfl | rfl
 ·simp; rcases hdc with rfl | rfl | rfl | rfl | rfl | rfl<;>omega
 ·simp; rcases hdc with rfl | rfl | rfl | rfl | rfl | rfl<;>omega
theorem zsE {g:Geo} {row j k:Int} (h:zcv g row=true) (j0:0≤j) (j1:j < g.width) (k0:0≤k) (k1:k < g.width) (e:zc7 g row j=zc7 g row k):j=k:=by
 have hk:=(zbm.1 h).1;rw [zpI h k0 k1,zpI h j0 j1] at e;have hp:=zm1 hk row;have hl:=zdE.1 hk;rw [zml hk] at k1 j1;generalize parA g row=p at*
 have hdc:g.d=3∨g.d=4∨g.d=5∨g.d=6∨g.d=7∨g.d=8:=by omega
 generalize g.d=d at*;generalize g.l=l at*;rcases hdc with rfl | rfl | rfl | rfl | rfl | rfl<;>omega
theorem zCT {g:Geo} {row k:Int} (h:zcv g row=true) (k0:0≤k) (k1:k < g.width):ofP g (numP g row k)=(zc7 g row k,row,true):=by
 obtain ⟨hk,h0,h1⟩:=zbm.1 h;obtain ⟨n0,n1⟩:=zIe hk h0 h1 k0 k1
 have:rowG g (numP g row k)=row∧zdq g (numP g row k)=k:=by
  have hw:=zbL hk;have hc:=(zdE.1 hk).2.2;unfold rowG zdq numP;generalize g.c=c at*;generalize g.width=w at*
  have hw:w=2∨w=3∨w=4∨w=5∨w=6∨w=7:=by omega
  rcases hc with rfl | rfl | rfl<;>rcases hw with rfl | rfl | rfl | rfl | rfl | rfl<;>omega
 unfold ofP;rw [if_pos ⟨n0,n1⟩,this.1,this.2]
end Wf

namespace Wf
open Go Go.RowKit
set_option linter.unusedSimpArgs false
set_option linter.unusedVariables false
set_option linter.unusedSectionVars false
theorem zsF {g:Geo} {row:Int} (h:zcv g row=true):0≤(parP g row).1∧(parP g row).1 < g.d∧((parP g row).2= -1∧g.l=5∨0≤(parP g row).2∧(parP g row).2 < g.d∧g.l=6):=by
 have hk:=(zbm.1 h).1;have hp:=zm1 hk row;have hm:=zEx hk (parA g row+1);have hl:=zdE.1 hk;unfold parP;rw [if_pos h];dsimp only;split
 ·rename_i e; exact ⟨hp.1,hp.2,.inl ⟨rfl,e⟩⟩
 ·exact ⟨hp.1,hp.2,.inr ⟨hm.1,hm.2,by omega⟩⟩
theorem zFI {g:Geo} {row:Int} (h:zcv g row=true):(parP g row).1≠(parP g row).2:=by
 have hk:=(zbm.1 h).1;have hp:=zm1 hk row;have hl:=zdE.1 hk;unfold parP;rw [if_pos h];dsimp only;generalize parA g row=p at*
 have hdc:g.d=3∨g.d=4∨g.d=5∨g.d=6∨g.d=7∨g.d=8:=by omega
 generalize g.d=d at*;split
 ·omega
 ·rcases hdc with rfl | rfl | rfl | rfl | rfl | rfl<;>omega
theorem zoI {g:Geo} {row d:Int} (h:zcv g row=true) (d0:0≤d) (d1:d < g.d) (h1:d≠(parP g row).1) (h2:d≠(parP g row).2):
  0≤zf0 g d row∧zf0 g d row < g.width∧zc7 g row (zf0 g d row)=d:=by
 have hk:=(zbm.1 h).1;have hp:=zm1 hk row;have hl:=zdE.1 hk;have hw:=zml hk;have hb:=zEx hk (d - parA g row - (g.l - 4)+2*g.d)
 have key:zf0 g d row < g.width∧(parA g row+(g.l - 4)+zf0 g d row) % g.d=d:=by
  unfold parP at h1 h2;rw [if_pos h] at h1 h2;simp only at h1 h2;rw [hw];unfold zf0;generalize parA g row=p at*
  have hdc:g.d=3∨g.d=4∨g.d=5∨g.d=6∨g.d=7∨g.d=8:=by omega
  generalize g.d=n at*;generalize g.l=l at*
  have hl5:l=5∨l=6:=by omega
  rcases hl5 with rfl | rfl
  ·simp at h2; rcases hdc with rfl | rfl | rfl | rfl | rfl | rfl<;>omega
  ·simp at h2; rcases hdc with rfl | rfl | rfl | rfl | rfl | rfl<;>omega
 refine ⟨hb.1,key.1,?_⟩
 rw [zpI h (show 0≤zf0 g d row from hb.1) key.1]; exact key.2
theorem zEy {g:Geo} {row k:Int} (h:zcv g row=true) (k0:0≤k) (k1:k < g.width):zf0 g (zc7 g row k) row=k:=by
 have hd:=zjH h k0 k1;have hp:=zAf h k0 k1;obtain ⟨c0,c1,c2⟩:=zoI h hd.1 hd.2 hp.1 hp.2;exact zsE h c0 c1 k0 k1 c2
def zgC (g:Geo) (row:Int) (ls:List (List Int)):List (List Int):=(List.range g.width.toNat).map fun (j:Nat)=>ls.getD (zc7 g row (j:Int)).toNat []
def qOf (g:Geo) (row:Int) (ls:List (List Int)):List Int:=if (parP g row).2 < 0 then [] else ls.getD (parP g row).2.toNat []
def pOf (g:Geo) (row:Int) (ls:List (List Int)):List Int:=ls.getD (parP g row).1.toNat []
def zvN (g:Geo) (r:Int) (ls:List (List Int)):Option (List (List Int)):=if zcv g r=true∧(ls.length:Int)=g.d then zoA (pOf g r ls) (qOf g r ls) (zgC g r ls) else none
def atR (g:Geo) (r:Int) (data:List (List Int)) (d:Int):List Int:=if d=(parP g r).1 then sumP 32 data else if d=(parP g r).2 then sumQ 32 data else data.getD (zf0 g d r).toNat []
def zcO (g:Geo) (r:Int) (data:List (List Int)):List (List Int):=(List.range g.d.toNat).map fun (d:Nat)=>atR g r data d
def zvO (g:Geo) (r:Int) (data:List (List Int)):Option (List (List Int)):=if zcv g r=true∧(data.length:Int)=g.width∧data.all (fun x=>decide (x.length=32))=true then some (zcO g r data) else none
structure Row (g:Geo) (data:List (List Int)):Prop where
 len:(data.length:Int)=g.width
 sec:∀ x∈data,Sec x
section
variable {g:Geo} {r:Int} {data:List (List Int)} (hr:zcv g r=true) (hR:Row g data)
include hr
theorem zCU {k:Int} (k0:0≤k) (k1:k < g.width):atR g r data (zc7 g r k)=data.getD k.toNat []:=by
 have hp:=zAf hr k0 k1;unfold atR;rw [if_neg hp.1,if_neg hp.2,zEy hr k0 k1]
theorem at_p:atR g r data (parP g r).1=sumP 32 data:=by unfold atR; rw [if_pos rfl]
theorem at_q:atR g r data (parP g r).2=sumQ 32 data:=by unfold atR; rw [if_neg (zFI hr).symm,if_pos rfl]
include hR
theorem zxB {d:Int} (d0:0≤d) (d1:d < g.d):Sec (atR g r data d):=by
 unfold atR;split
 ·exact zz0 hR.sec
 ·rename_i h1;split
  ·exact zz1 hR.sec
  ·rename_i h2;obtain ⟨c0,c1,_⟩:=zoI hr d0 d1 h1 h2
   exact hR.sec _ (zc3 (by have:=hR.len; omega))
theorem zi1:zvO g r data=some (zcO g r data):=by
 unfold zvO
 rw [if_pos ⟨hr,hR.len,by rw [List.all_eq_true]; intro x hx; simpa using (hR.sec x hx).len⟩]
end
theorem zi2 {g:Geo} {r:Int} {data:List (List Int)} {d:Nat} (h:(d:Int) < g.d):(zcO g r data)[d]? =some (atR g r data d):=by
 unfold zcO
 rw [List.getElem?_map,List.getElem?_range (by omega)]; rfl
theorem zpJ (g:Geo) (r:Int) (data:List (List Int)):(zcO g r data).length=g.d.toNat:=by simp [zcO]
theorem zEz {n p:Nat} (hp:p < n):((List.range n).map fun i=>(p+i) % n).Perm (List.range n):=by
 have e1:List.range n=List.range (n - p)++(List.range p).map ((n - p)+·):=by rw [←List.range_add]; congr 1; omega
 have e2:List.range n=List.range p++(List.range (n - p)).map (p+·):=by rw [←List.range_add]; congr 1; omega
 have h1:((List.range n).map fun i=>(p+i) % n)=(List.range (n - p)).map (p+·)++List.range p:=by
  conv=>lhs; rw [e1]
  rw [List.map_append,List.map_map];congr 1
  ·apply List.map_congr_left;intro i hi;have:=List.mem_range.1 hi
   exact Nat.mod_eq_of_lt (by omega)
  ·conv=>rhs; rw [←List.map_id (List.range p)]
   apply List.map_congr_left;intro i hi;have:=List.mem_range.1 hi;show (p+(n - p+i)) % n=i
   rw [show p+(n - p+i)=n+i by omega,Nat.add_mod_left,Nat.mod_eq_of_lt (by omega)]
 rw [h1]
 conv=>rhs; rw [e2]
 exact List.perm_append_comm
theorem zCV {n p:Nat} (hp:p < n) (f:Nat→Bool):(List.range n).countP f=(List.range n).countP fun i=>f ((p+i) % n):=by
 rw [←(zEz hp).countP_eq,List.countP_map]; rfl
theorem zCW {g:Geo} {r:Int} (hr:zcv g r=true) (f:Int→Bool):
  (List.range g.d.toNat).countP (fun (d:Nat)=>f d)=(if f (parP g r).1 then 1 else 0)+(if g.l=6∧f (parP g r).2=true then 1 else 0)+(List.range g.width.toNat).countP (fun (k:Nat)=>f (zc7 g r k)):=by
 obtain ⟨hk,r0,r1⟩:=zbm.1 hr;have hl:=zdE.1 hk;have hw:=zml hk;have hpi:=zm1 hk r
 have hP:(parP g r).1=parA g r:=by unfold parP; rw [if_pos hr]
 have hd:∀ k:Nat,(k:Int) < g.width→zc7 g r k=(((parA g r).toNat+((g.l - 4).toNat+k)) % g.d.toNat:Nat):=by
  intro k hk'
  rw [zpI hr (by omega) hk']
  rw [Int.natCast_emod];congr 1<;>omega
 rw [zCV (p:=(parA g r).toNat) (by omega)]
 have hn:g.d.toNat=(g.l - 4).toNat+g.width.toNat:=by omega
 have split:∀ (a w:Nat) (F:Nat→Bool),(List.range (a+w)).countP F=(List.range a).countP F+(List.range w).countP fun k=>F (a+k):=by
  intro a w F;rw [List.range_add,List.countP_append,List.countP_map]; rfl
 have h1:(List.range g.d.toNat).countP (fun i=>f (((parA g r).toNat+i) % g.d.toNat:Nat))=(List.range (g.l - 4).toNat).countP (fun i=>f (((parA g r).toNat+i) % g.d.toNat:Nat))+(List.range g.width.toNat).countP (fun k=>f (((parA g r).toNat+((g.l - 4).toNat+k)) % g.d.toNat:Nat)):=by
  conv=>lhs; rw [show List.range g.d.toNat=List.range ((g.l - 4).toNat+g.width.toNat) by rw [←hn]]
  exact split _ _ _
 rw [h1]
 have h2:(List.range g.width.toNat).countP (fun k=>f (((parA g r).toNat+((g.l - 4).toNat+k)) % g.d.toNat:Nat))=(List.range g.width.toNat).countP (fun (k:Nat)=>f (zc7 g r k)):=by
  apply List.countP_congr;intro k hk';have:=List.mem_range.1 hk'
  rw [hd k (by omega)]
 rw [h2];congr 1
 have e0:((((parA g r).toNat+0) % g.d.toNat:Nat):Int)=(parP g r).1:=by
  rw [hP,Nat.add_zero,Nat.mod_eq_of_lt (by omega)]; omega
 have hl5:g.l=5∨g.l=6:=by omega
 rcases hl5 with h5 | h6
 ·rw [show (g.l - 4).toNat=1 by omega,if_neg (show ¬ (g.l=6∧f (parP g r).2=true) by omega)]
  simp only [List.range_succ,List.range_zero,List.nil_append,List.countP_cons,List.countP_nil];rw [e0]; omega
 ·have e1:((((parA g r).toNat+1) % g.d.toNat:Nat):Int)=(parP g r).2:=by
   unfold parP
   rw [if_pos hr,if_neg (by omega),Int.natCast_emod]
   congr 1<;>omega
  rw [show (g.l - 4).toNat=2 by omega]
  simp only [List.range_succ,List.range_zero,List.nil_append,List.countP_append,List.countP_cons,List.countP_nil];rw [e0,e1];simp [h6]
def Ben.secs (B:Ben) (live:List Bool) (r:Int) (n:Nat):List (List Int):=(List.range n).map fun (d:Nat)=>if B.up live d then B.cur d (36+r) else []
def Ben.sRead (B:Ben) (live:List Bool) (g:Geo) (r:Int):List (List Int)×Int:=
 if zcv g r=false then ([],1)
 else if B.down=true∧(List.range g.d.toNat).any (fun (d:Nat)=>B.up live d)=true then ([],6)
 else match zvN g r (B.secs live r g.d.toNat) with
  | some o=>(o,0)
  | none=>([],7)
def Ben.sOne (B:Ben) (live:List Bool) (g:Geo) (n:Int):List Int×Int:=
 if (ofP g n).2.2=false then ([],4)
 else if B.up live (ofP g n).1 then B.read (ofP g n).1 (36+(ofP g n).2.1)
 else if (B.sRead live g (ofP g n).2.1).2≠0 then ([],(B.sRead live g (ofP g n).2.1).2)
 else ((B.sRead live g (ofP g n).2.1).1.getD (zdq g n).toNat [],0)
def Ben.wActs (B:Ben) (live:List Bool) (g:Geo) (r:Int) (data:List (List Int)):List Act:=(List.range g.d.toNat).flatMap fun (d:Nat)=>if B.up live d then [.w d (36+r) (atR g r data d)] else []
def Ben.sWrite (B:Ben) (live:List Bool) (g:Geo) (r:Int) (data:List (List Int)):Int×Ben:=if zvO g r data=none then (1,B) else runA (B.wActs live g r data) B
def Ben.fActs (B:Ben) (live:List Bool):List Act:=(List.range B.ds.length).flatMap fun (d:Nat)=>if B.up live d then [.f d] else []
def Ben.sFlush (B:Ben) (live:List Bool):Int×Ben:=runA (B.fActs live) B
def Ben.lostN (B:Ben) (live:List Bool) (g:Geo):Nat:=(List.range g.d.toNat).countP fun (d:Nat)=> !B.up live d
section
variable {B:Ben} {live:List Bool} {g:Geo} {r:Int} {data:List (List Int)}
theorem zEA (n:Nat):(B.secs live r n).length=n:=by simp [Ben.secs]
theorem zvP {d:Int} (d0:0≤d) (d1:d < g.d):(B.secs live r g.d.toNat).getD d.toNat []=if B.up live d then B.cur d (36+r) else []:=by
 unfold Ben.secs
 rw [List.getD_eq_getElem?_getD,List.getElem?_map,List.getElem?_range (by omega)]
 simp only [Option.map_some,Option.getD_some]
 rw [show ((d.toNat:Nat):Int)=d by omega]
theorem zCX (hr:zcv g r=true) (hR:Row g data) (hrow:∀ d:Int,0≤d→d < g.d→B.up live d=true→B.cur d (36+r)=atR g r data d):
  zvN g r (B.secs live r g.d.toNat)=if (B.lostN live g:Int)≤g.l - 4 then some data else none:=by
 obtain ⟨hk,r0,r1⟩:=zbm.1 hr;have hl:=zdE.1 hk;have hw:=zml hk;have hw2:=zbL hk;have hlen:=hR.len;unfold zvN
 rw [if_pos ⟨hr,by rw [zEA]; omega⟩]
 have dget:∀ k,k < data.length→(zgC g r (B.secs live r g.d.toNat)).getD k []=if B.up live (zc7 g r k) then data.getD k [] else []:=by
  intro k hk'
  have hdi:=zjH hr (k:=(k:Int)) (by omega) (by omega)
  unfold zgC
  rw [List.getD_eq_getElem?_getD,List.getElem?_map,List.getElem?_range (by omega)]
  simp only [Option.map_some,Option.getD_some];rw [zvP hdi.1 hdi.2];split
  ·rename_i hu
   rw [hrow _ hdi.1 hdi.2 hu,zCU hr (by omega) (by omega)]; rfl
  ·rfl
 have dlen:(zgC g r (B.secs live r g.d.toNat)).length=data.length:=by simp [zgC]; omega
 have hH:Holes (zgC g r (B.secs live r g.d.toNat)) data:=⟨dlen,fun k hk'=>by rw [dget k hk']; split; exact .inr rfl; exact .inl rfl⟩
 obtain ⟨p0,p1,p2⟩:=zsF hr
 have hp:pOf g r (B.secs live r g.d.toNat)=if B.up live (parP g r).1 then sumP 32 data else []:=by
  unfold pOf;rw [zvP p0 p1];split
  ·rename_i hu; rw [hrow _ p0 p1 hu,at_p hr]
  ·rfl
 have hq:qOf g r (B.secs live r g.d.toNat)=if g.l=6∧B.up live (parP g r).2=true then sumQ 32 data else []:=by
  unfold qOf;rcases p2 with ⟨e,h5⟩ | ⟨q0,q1,h6⟩
  ·rw [if_pos (by omega),if_neg (by omega)]
  ·rw [if_neg (by omega),zvP q0 q1]
   by_cases hu:B.up live (parP g r).2=true
   ·rw [if_pos hu,if_pos ⟨h6,hu⟩,hrow _ q0 q1 hu,at_q hr]
   ·rw [if_neg hu,if_neg (fun e=>hu e.2)]
 have sp:=zCz (zz0 hR.sec);have sq:=zCz (zz1 hR.sec)
 rw [zA3 hH hR.sec (by omega) (by omega) (by rw [hp]; split; exact .inr rfl; exact .inl rfl) (by rw [hq]; split; exact .inr ⟨rfl,by omega⟩; exact .inl rfl)]
 have hmiss:(zdv (zgC g r (B.secs live r g.d.toNat))).length=(List.range g.width.toNat).countP (fun (k:Nat)=> !B.up live (zc7 g r k)):=by
  unfold zdv
  rw [←List.countP_eq_length_filter,dlen,show data.length=g.width.toNat by omega]
  apply List.countP_congr;intro k hk';have hk2:=List.mem_range.1 hk'
  rw [dget k (by omega)]
  cases hu:B.up live (zc7 g r k)
  ·simp
  ·simpa using zCz (hR.sec _ (zc3 (show k < data.length by omega)))
 have hcr:=zCW hr (fun d=> !B.up live d)
 unfold Ben.lostN;rw [hmiss,zyO,hp,hq]
 have hl5:g.l=5∨g.l=6:=by omega
 generalize (List.range g.width.toNat).countP (fun (k:Nat)=> !B.up live (zc7 g r k))=m at*
 rw [hcr]
 have iteq:∀ (c:Prop) [Decidable c] (c':Prop) [Decidable c'],(c↔¬ c')→(if c then none else some data)=(if c' then some data else (none:Option (List (List Int)))):=by
  intro c _ c' _ h
  by_cases hc:c
  ·rw [if_pos hc,if_neg (h.1 hc)]
  ·rw [if_neg hc,if_pos (Classical.byContradiction fun e=>hc (h.2 e))]
 apply iteq;rcases hl5 with h5 | h6
 ·cases hu:B.up live (parP g r).1
  ·simp [h5]; omega
  ·simp [h5,sp]; omega
 ·cases hu:B.up live (parP g r).1
  ·cases hv:B.up live (parP g r).2
   ·simp [h6]; omega
   ·simp [h6,sq]; omega
  ·cases hv:B.up live (parP g r).2
   ·simp [h6,sp]; omega
   ·simp [h6,sp,sq]; omega
theorem zEB (hr:zcv g r=true) (hR:Row g data) (hdn:B.down=false) (hrow:∀ d:Int,0≤d→d < g.d→B.up live d=true→B.cur d (36+r)=atR g r data d):
  B.sRead live g r=if (B.lostN live g:Int)≤g.l - 4 then (data,0) else ([],7):=by
 unfold Ben.sRead
 rw [if_neg (by simp [hr]),if_neg (by simp [hdn]),zCX hr hR hrow]
 by_cases h:(B.lostN live g:Int)≤g.l - 4
 ·rw [if_pos h,if_pos h]
 ·rw [if_neg h,if_neg h]
theorem zGP {n:Int} (n0:0≤n) (n1:n < g.cap) (hR:Row g data) (hdn:B.down=false) (hrow:∀ d:Int,0≤d→d < g.d→B.up live d=true→B.cur d (36+rowG g n)=atR g (rowG g n) data d):
  B.sOne live g n=if B.up live (ofP g n).1=true∨(B.lostN live g:Int)≤g.l - 4 then (data.getD (zdq g n).toNat [],0) else ([],7):=by
 have hk:=zuF n0 n1;have hrf:=zrq n0 n1;have hr:zcv g (rowG g n)=true:=zbm.2 ⟨hk,hrf.1,hrf.2.1⟩;have hc:0≤zdq g n∧zdq g n < g.width:=zGO hk (n / g.c)
 have ho:ofP g n=(zc7 g (rowG g n) (zdq g n),rowG g n,true):=by unfold ofP; rw [if_pos ⟨n0,n1⟩]
 have hdi:=zjH hr (k:=zdq g n) hc.1 hc.2;unfold Ben.sOne;rw [ho];dsimp only
 rw [if_neg (by simp)]
 by_cases hu:B.up live (zc7 g (rowG g n) (zdq g n))=true
 ·rw [if_pos hu,if_pos (.inl hu)];have hu':=hu;unfold Ben.up at hu;simp only [Bool.and_eq_true,decide_eq_true_eq,Bool.not_eq_true'] at hu;have his:B.is (zc7 g (rowG g n) (zdq g n))=true:=zfN.2 ⟨hdi.1,hu.1⟩;have hf:=hu.2.2;rw [ziZ his] at hf;unfold Ben.read
  rw [if_neg (by rw [may0.2 ⟨his,hdn⟩]; simp)]
  unfold DS.read
  rw [if_neg (by rw [znt.2 ⟨hf,by omega,by omega⟩]; simp)]
  have:=hrow _ hdi.1 hdi.2 hu';rw [zCU hr hc.1 hc.2] at this;rw [←this]; rfl
 ·rw [if_neg hu,zEB hr hR hdn hrow]
  by_cases hlo:(B.lostN live g:Int)≤g.l - 4
  ·have h2:B.up live (zc7 g (rowG g n) (zdq g n))=true∨(B.lostN live g:Int)≤g.l - 4:=.inr hlo;rw [if_pos hlo,if_pos h2]; simp
  ·have h2:¬ (B.up live (zc7 g (rowG g n) (zdq g n))=true∨(B.lostN live g:Int)≤g.l - 4):=by rintro (h | h); exact hu h; exact hlo h
   rw [if_neg hlo,if_neg h2]; simp
theorem zEC {d:Int} (d0:0≤d) (h:B.up live d=true):B.is d=true∧B.failed d=false∧live[d.toNat]? =some true:=by
 unfold Ben.up at h;simp only [Bool.and_eq_true,decide_eq_true_eq,Bool.not_eq_true'] at h;refine ⟨zfN.2 ⟨d0,h.1⟩,h.2.2,?_⟩
 cases e:live[d.toNat]? with
 | none=>rw [e] at h; simp at h
 | some b=>rw [e] at h; simpa using h.2.1
theorem zAg (hr:zcv g r=true) (hR:Row g data):∀ a∈B.wActs live g r data,a.Ok B:=by
 intro a ha;obtain ⟨k0,r0,r1⟩:=zbm.1 hr;unfold Ben.wActs at ha;obtain ⟨d,hd,ha⟩:=List.mem_flatMap.1 ha;have hd:=List.mem_range.1 hd;split at ha
 ·rename_i hu;rw [List.mem_singleton.1 ha]
  obtain ⟨h1,h2,_⟩:=zEC (by omega) hu
  exact ⟨h1,h2,by omega,by omega,zxB hr hR (by omega) (by omega)⟩
 ·cases ha
theorem zvQ:∀ a∈B.fActs live,a.Ok B:=by
 intro a ha;unfold Ben.fActs at ha;obtain ⟨d,hd,ha⟩:=List.mem_flatMap.1 ha;split at ha
 ·rename_i hu;rw [List.mem_singleton.1 ha]
  obtain ⟨h1,h2,_⟩:=zEC (by omega) hu
  exact ⟨h1,h2⟩
 ·cases ha
theorem zAh (d b:Int):∀ a∈B.fActs live,a.at d b=false:=by
 intro a ha;unfold Ben.fActs at ha;obtain ⟨e,he,ha⟩:=List.mem_flatMap.1 ha;split at ha
 ·rw [List.mem_singleton.1 ha]; rfl
 ·cases ha
theorem zyU {d b:Int} (h:b≠36+r∨B.up live d=false):∀ a∈B.wActs live g r data,a.at d b=false:=by
 intro a ha;unfold Ben.wActs at ha;obtain ⟨e,he,ha⟩:=List.mem_flatMap.1 ha;split at ha
 ·rename_i hu;rw [List.mem_singleton.1 ha]
  unfold Act.at
  dsimp only;rw [decide_eq_false_iff_not]
  rintro ⟨rfl,rfl⟩
  rcases h with h | h
  ·exact h rfl
  ·rw [hu] at h; cases h
 ·cases ha
theorem zxC {d:Nat} (hd:(d:Int) < g.d) (hu:B.up live d=true) (c:Int→Int→List Int):curs c (B.wActs live g r data) d (36+r)=atR g r data d:=by
 unfold Ben.wActs
 have e:List.range g.d.toNat=List.range d++d::(List.range' (d+1) (g.d.toNat - d - 1)):=by
  have e2:g.d.toNat=d+(1+(g.d.toNat - d - 1)):=by omega
  rw [List.range_eq_range',List.range_eq_range']
  conv=>lhs; rw [e2,←List.range'_append_1,←List.range'_append_1,Nat.zero_add]
  rfl
 rw [e,List.flatMap_append,List.flatMap_cons,if_pos hu];refine zCQ ?_ c;intro a ha;obtain ⟨f,hf,ha⟩:=List.mem_flatMap.1 ha;have:=List.mem_range'_1.1 hf;split at ha
 ·rw [List.mem_singleton.1 ha]
  unfold Act.at
  dsimp only;rw [decide_eq_false_iff_not]
  rintro ⟨h,_⟩; omega
 ·cases ha
end
end Wf

