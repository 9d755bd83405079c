/- A part of the proof: lemmas that the law's row leans on. -/
import Derived.Scope
import Derived.ProofKit
import Derived.Test.YtlbdpbbpoghncaaGreatPb
set_option linter.all false
namespace Wf
open Go Go.RowKit
section
variable {P:Program} {Γ:Env} {ops:Array Oper}
def comp (P:Program) (Γ:Env) (ops:Array Oper) (o:Oper) (s:St):Option (Out×Foot):=
 match zhi ops s.slots o with
 | none=>none
 | some false=>some ({ v:=.d (.tup []) },{})
 | some true=>
  let vs:=o.op.operands.toList.map (zeX s.slots);let rd:=rdOf Γ o vs s.L
  if 90000≤o.dst.getD 0 then none else (aop P Γ o (zeX s.slots) (s.L.only rd)).bind fun out=>some (out,{ rd,wr:=out.wr.map (·.1) })
def act (s:St) (dst:Option Tmp) (out:Out):St:={ slots:=putV s.slots dst out.v,L:=s.L.upd out.wr }
theorem zps (o:Oper) (s:St):zij P Γ ops o s=(comp P Γ ops o s).map fun x=>(act s o.dst x.1,x.2):=by
 unfold zij comp
 cases zhi ops s.slots o with
 | none=>rfl
 | some b=>
  cases b with
  | false=>rfl
  | true=>
   dsimp only;split
   ·rfl
   ·cases aop P Γ o (zeX s.slots) (s.L.only (rdOf Γ o (o.op.operands.toList.map (zeX s.slots)) s.L)) with
    | none=>rfl
    | some out=>rfl
theorem zwY {o:Oper} {s:St} {out:Out} {f:Foot} (h:comp P Γ ops o s=some (out,f)):f.wr=out.wr.map (·.1):=by
 unfold comp at h;split at h
 ·cases h
 ·injection h with h; injection h with h1 h2; subst h1; subst h2; rfl
 ·dsimp only at h;split at h
  ·cases h
  cases ha:aop P Γ o (zeX s.slots) (s.L.only (rdOf Γ o (o.op.operands.toList.map (zeX s.slots)) s.L)) with
  | none=>rw [ha] at h; cases h
  | some x=>
   rw [ha] at h;simp only [Option.bind_some] at h;injection h with h; injection h with h1 h2; subst h1; subst h2;rfl
theorem zwZ {ρ ρ':Operand→V} {ps:Array (Nat×Operand)} (h:∀ x∈(ps.toList.map (·.2)),ρ x=ρ' x):(ps.toList.map fun (i,x)=>(i,(ρ x).unp))=ps.toList.map fun (i,x)=>(i,(ρ' x).unp):=
 List.map_congr_left fun p hp=>by obtain ⟨i,x⟩:=p; dsimp only; rw [h x (List.mem_map.2 ⟨_,hp,rfl⟩)]
theorem ztu {ρ ρ':Operand→V} {ps:Array (Nat×Operand)} (h:∀ x∈(ps.toList.map (·.2)),ρ x=ρ' x):(ps.toList.map fun (i,x)=>(i,ρ x))=ps.toList.map fun (i,x)=>(i,ρ' x):=
 List.map_congr_left fun p hp=>by obtain ⟨i,x⟩:=p; dsimp only; rw [h x (List.mem_map.2 ⟨_,hp,rfl⟩)]
theorem zjC {ρ ρ':Operand→V} {x:Option Operand} (h:∀ y∈x.toArray,ρ y=ρ' y):x.map ρ=x.map ρ':=by
 cases x with
 | none=>rfl
 | some y=>simp [h y (by simp)]
theorem zAJ {o:Oper} {ρ ρ':Operand→V} (h:∀ x∈o.op.operands,ρ x=ρ' x) (L:Loc):aop0 P Γ o ρ L=aop0 P Γ o ρ' L:=by
 unfold aop0
 cases hop:o.op<;>rw [hop] at h<;>try rfl
 case call cl=>
  obtain ⟨callee,args,argTypes⟩:=cl
  have hm:(∀ x∈args,ρ x=ρ' x)→args.toList.map ρ=args.toList.map ρ':=fun hh=>List.map_congr_left fun x hx=>hh x (by simpa using hx)
  cases callee with
  | invoke _ _=>rfl
  | value f=>
   have h1:ρ f=ρ' f:=h f (by simp [Op.operands,Call.operands])
   have h2:=hm fun x hx=>h x (by simp [Op.operands,Call.operands,hx])
   dsimp only
   rw [h1,h2]
  | builtin b=>
   have h2:∀ x∈args,ρ x=ρ' x:=fun x hx=>h x (by simp [Op.operands,Call.operands,hx])
   have h3:=hm h2
   have h4:∀ l,args.toList=l→∀ x∈l,ρ x=ρ' x:=fun l hl x hx=>h2 x (by rw [←Array.mem_toList_iff,hl]; exact hx)
   cases b<;>try rfl
   case len=>
    dsimp only;generalize hl:args.toList=l;split
    ·rw [h4 _ hl _ (by simp)]
    ·rename_i hn;rfl
   case min=>dsimp only; rw [h3]
   case max=>dsimp only; rw [h3]
   case append=>
    dsimp only;generalize hl:args.toList=l;split
    ·rw [h4 _ hl _ (by simp),h4 _ hl _ (List.mem_cons_of_mem _ (by simp))]
    ·rfl
   case copy=>
    dsimp only;generalize hl:args.toList=l;split
    ·rw [h4 _ hl _ (by simp),h4 _ hl _ (List.mem_cons_of_mem _ (by simp))]
    ·rfl
 case build t ps=>
  dsimp only
  rw [zwZ (ρ:=ρ) (ρ':=ρ') fun x hx=>h x (by simpa [Op.operands] using hx)]
 case buildSlice t n ps=>
  dsimp only
  rw [ztu (ρ:=ρ) (ρ':=ρ') fun x hx=>h x (by simpa [Op.operands] using hx)]
 case makeFunc fn a b=>
  have h1:a.toList.map ρ=a.toList.map ρ':=List.map_congr_left fun x hx=>h x (by simp [Op.operands]; exact .inl (by simpa using hx))
  have h2:b.toList.map ρ=b.toList.map ρ':=List.map_congr_left fun x hx=>h x (by simp [Op.operands]; exact .inr (by simpa using hx))
  cases fn<;>simp only [h1,h2]
 case makeMap t r=>cases r<;>rfl
 case slice t x lo hi mx=>
  dsimp only
  have h0:ρ x=ρ' x:=h x (by simp [Op.operands])
  rw [h0,zjC (x:=lo) (ρ:=ρ) (ρ':=ρ') fun y hy=>h y (by simp only [Op.operands,Array.mem_append]; simp at hy ⊢; simp [hy]),
   zjC (x:=hi) (ρ:=ρ) (ρ':=ρ') fun y hy=>h y (by simp only [Op.operands,Array.mem_append]; simp at hy ⊢; simp [hy]),
   zjC (x:=mx) (ρ:=ρ) (ρ':=ρ') fun y hy=>h y (by simp only [Op.operands,Array.mem_append]; simp at hy ⊢; simp [hy])]
 all_goals
  simp [Op.operands] at h;simp only [h]
theorem zBW {o:Oper} {ρ ρ':Operand→V} (h:∀ x∈o.op.operands,ρ x=ρ' x) (L:Loc):aop P Γ o ρ L=aop P Γ o ρ' L:=by
 unfold aop;rw [zAJ h]
theorem zBX {slots:List V} {dst:Option Tmp} {v:V} {x:Operand} (h:∀ d,dst=some d→x≠.tmp d):zeX (putV slots dst v) x=zeX slots x:=by
 cases dst with
 | none=>rfl
 | some d=>
  cases x with
  | tmp t=>
   have:d≠t:=fun e=>h d rfl (by rw [e])
   simp only [zeX,putV,List.getD_eq_getElem?_getD,List.getElem?_set_ne this]
  | _=>rfl
theorem zue {o:Oper} {slots:List V} {dst:Option Tmp} {v:V} (h:∀ d,dst=some d→d ∉ o.looksAt ops):zhi ops (putV slots dst v) o=zhi ops slots o:=by
 cases dst with
 | none=>rfl
 | some d=>
  unfold zhi
  cases hg:o.guard with
  | none=>rfl
  | some gw=>
   obtain ⟨g,want⟩:=gw;dsimp only
   cases hd:(ops[g]?).bind (·.dst) with
   | none=>rfl
   | some d'=>
    have:d≠d':=by
     rintro rfl
     exact h d rfl (List.mem_append_right _ (by simp [hg,hd]))
    simp only [Option.bind_some,putV,List.getElem?_set_ne this]
theorem zF6 {o:Oper} {vs:List V} {L L':Loc} (h:∀ g∈rdOf Γ o vs L',L g=L' g):rdOf Γ o vs L=rdOf Γ o vs L':=by
 unfold rdOf at*;congr 2;split
 ·rename_i hl;simp only [hl,if_true] at h
  have hc:∀ l:List Nat,(∀ g∈l,L g=L' g)→(l.flatMap fun g=>g::(match (L g).2 with | .vbox _ _ _ us=>V.idsL us | _=>[]))=l.flatMap fun g=>g::(match (L' g).2 with | .vbox _ _ _ us=>V.idsL us | _=>[]):=by
   intro l
   induction l with
   | nil=>intro _; rfl
   | cons g l ih=>
    intro hh;simp only [List.flatMap_cons]
    rw [hh g (by simp),ih fun g' hg'=>hh g' (by simp [hg'])]
  exact hc _ fun g hg=>h g (List.mem_append_left _ (List.mem_append_left _ (List.mem_flatMap.2 ⟨g,hg,by simp⟩)))
 ·rfl
theorem zAK {L L':Loc} {rd:List Nat} (h:∀ g∈rd,L g=L' g):L.only rd=L'.only rd:=by
 funext g;unfold Loc.only;split
 ·rename_i hg; exact h g hg
 ·rfl
theorem zuf {o:Oper} {s s':St} {out:Out} {f:Foot} (he:∀ x∈o.op.operands,zeX s'.slots x=zeX s.slots x) (hg:zhi ops s'.slots o=zhi ops s.slots o)
  (hL:∀ g∈f.rd,s'.L g=s.L g) (h:comp P Γ ops o s=some (out,f)):comp P Γ ops o s'=some (out,f):=by
 unfold comp at h ⊢;rw [hg];split at h
 ·cases h
 ·exact h
 ·dsimp only at h ⊢
  have hvs:o.op.operands.toList.map (zeX s'.slots)=o.op.operands.toList.map (zeX s.slots):=List.map_congr_left fun x hx=>he x (by simpa using hx)
  rw [hvs];split at h
  ·cases h
  rename_i hlt;rw [if_neg hlt]
  cases ha:aop P Γ o (zeX s.slots) (s.L.only (rdOf Γ o (o.op.operands.toList.map (zeX s.slots)) s.L)) with
  | none=>rw [ha] at h; cases h
  | some x=>
   rw [ha] at h;simp only [Option.bind_some] at h;injection h with h; injection h with h1 h2; subst h1; subst h2;dsimp only at hL;rw [zF6 hL,zAK hL,zBW he,ha];rfl
theorem zw0 {wr:Wr}:∀ {L:Loc} {g:Nat},g ∉ wr.map (·.1)→L.upd wr g=L g:=by
 induction wr with
 | nil=>intros; rfl
 | cons x wr ih=>
  intro L g h;obtain ⟨k,y⟩:=x;simp only [List.map_cons,List.mem_cons,not_or] at h;rw [Loc.upd,ih h.2,Loc.set_ne _ _ h.1]
theorem zw1 {wr:Wr}:∀ {L L':Loc} {g:Nat},L g=L' g→L.upd wr g=L'.upd wr g:=by
 induction wr with
 | nil=>intro L L' g h; exact h
 | cons x wr ih=>
  intro L L' g h;obtain ⟨k,y⟩:=x;rw [Loc.upd,Loc.upd];apply ih;unfold Loc.set;split
  ·rfl
  ·exact h
theorem zHJ {wr:Wr}:∀ {L L':Loc} {g:Nat},g∈wr.map (·.1)→L.upd wr g=L'.upd wr g:=by
 induction wr with
 | nil=>intro L L' g h; simp at h
 | cons x wr ih=>
  intro L L' g h;obtain ⟨k,y⟩:=x;rw [Loc.upd,Loc.upd]
  by_cases hg:g∈wr.map (·.1)
  ·exact ih hg
  ·apply zw1;simp only [List.map_cons,List.mem_cons] at h;rcases h with h | h
   ·subst h; rw [Loc.set_same,Loc.set_same]
   ·exact absurd h hg
theorem zD0 {a b:Wr} {L:Loc} (h:∀ g∈a.map (·.1),g ∉ b.map (·.1)):(L.upd a).upd b=(L.upd b).upd a:=by
 funext g
 by_cases ha:g∈a.map (·.1)
 ·rw [zw0 (h g ha)]; exact zHJ ha
 ·rw [zw0 (wr:=a) ha];exact zw1 (zw0 ha)
def zqt (a b:Foot):Bool:=(a.quiet && b.quiet) || zFR a b
theorem zAL {a b:Foot} (h:zqt a b=true):(∀ g∈a.wr,g ∉ b.rd)∧(∀ g∈b.wr,g ∉ a.rd)∧(∀ g∈a.wr,g ∉ b.wr):=by
 unfold zqt at h;rw [Bool.or_eq_true] at h;rcases h with h | h
 ·simp [Foot.quiet] at h;obtain ⟨h1,h3⟩:=h;rw [h1,h3]
  exact ⟨by simp,by simp,by simp⟩
 ·simp only [zFR,Bool.and_eq_true,List.all_eq_true,Bool.not_eq_true'] at h;obtain ⟨h1,h2⟩:=h
  refine ⟨fun g hg hb=>?_,fun g hg hb=>?_,fun g hg hb=>?_⟩
  ·have:=(h1 g hg).1; simp [hb] at this
  ·have:=h2 g hg; simp [hb] at this
  ·have:=(h1 g hg).2; simp [hb] at this
theorem zAM {oi oj:Oper} {s s1 s2:St} {fi fj:Foot} (hap:oi.apart ops oj=true) (hin:zqt fi fj=true) (h1:zij P Γ ops oi s=some (s1,fi)) (h2:zij P Γ ops oj s1=some (s2,fj)):
  ∃ s1',zij P Γ ops oj s=some (s1',fj)∧zij P Γ ops oi s1'=some (s2,fi):=by
 rw [zps] at h1 h2
 cases hc1:comp P Γ ops oi s with
 | none=>rw [hc1] at h1; cases h1
 | some p1=>
 obtain ⟨out1,f1⟩:=p1;rw [hc1] at h1;injection h1 with h1; injection h1 with e1 e2; subst e1; subst e2;dsimp only at h2 hin ⊢
 cases hc2:comp P Γ ops oj (act s oi.dst out1) with
 | none=>rw [hc2] at h2; cases h2
 | some p2=>
 obtain ⟨out2,f2⟩:=p2;rw [hc2] at h2;injection h2 with h2; injection h2 with e1 e2; subst e1; subst e2;dsimp only at hin ⊢;obtain ⟨a1,a2,a3⟩:=Oper.apart_spec hap;obtain ⟨i1,i2,i3⟩:=zAL hin;have w1:=zwY hc1;have w2:=zwY hc2
 have hlook:∀ {o:Oper} {dst:Option Tmp} {v:V} {slots:List V},(∀ d,dst=some d→d ∉ o.looksAt ops)→∀ x∈o.op.operands,zeX (putV slots dst v) x=zeX slots x:=by
  intro o dst v slots hd x hx
  refine zBX fun d hdd hxd=>hd d hdd ?_
  subst hxd
  exact List.mem_append_left _ (List.mem_filterMap.2 ⟨.tmp d,by simpa using hx,rfl⟩)
 have c2:comp P Γ ops oj s=some (out2,f2):=by
  refine zuf (s:=act s oi.dst out1) (fun x hx=>(hlook a1 x hx).symm) (zue a1).symm (fun g hg=>?_) hc2
  refine (zw0 ?_).symm
  rw [←w1]; exact fun hh=>i1 g hh hg
 have c1:comp P Γ ops oi (act s oj.dst out2)=some (out1,f1):=by
  refine zuf (s:=s) (fun x hx=>hlook a3 x hx) (zue a3) (fun g hg=>?_) hc1
  refine zw0 ?_
  rw [←w2]; exact fun hh=>i2 g hh hg
 refine ⟨act s oj.dst out2,?_,?_⟩
 ·rw [zps,c2]; rfl
 ·rw [zps,c1];simp only [Option.map_some];congr 2;unfold act;congr 1
  ·cases hd1:oi.dst with
   | none=>rfl
   | some d1=>
    cases hd2:oj.dst with
    | none=>rfl
    | some d2=>
     have:d2≠d1:=fun e=>a2 d1 hd1 (by rw [hd2,e])
     exact List.set_comm _ _ this
  ·refine (zD0 ?_).symm;rw [←w1,←w2]; exact i3
def AAny (P:Program) (Γ:Env) (ops:Array Oper) (fp:Nat→Foot) (Q:St→Prop):Nat→Array Bool→St→Prop
 | 0,listed,s=>Region.ready .any ops listed=[]∧Q s
 | n+1,listed,s=>(Region.ready .any ops listed=[]→Q s)∧
  ∀ i∈Region.ready .any ops listed,∃ o s',ops[i]? =some o∧zij P Γ ops o s=some (s',fp i)∧AAny P Γ ops fp Q n (listed.setIfInBounds i true) s'
theorem zBY {N:Nat} {w0:World} {O0:Nat→Prop} {γ0:E0} (hΓ:∀ f sp,Γ f=some sp→za2 P f sp) {fp:Nat→Foot} {K:St→Prop} {Q:Exit→Act→World→Prop}
  (hQ:∀ s a w,K s→Rel N w0 O0 γ0 s a w→Q .normal a w):∀ (n:Nat) (listed:Array Bool) (s:St) (a:Act) (w:World),AAny P Γ ops fp K n listed s→Rel N w0 O0 γ0 s a w→wpAny P .any ops Q n listed a w
 | 0,_,s,a,w,h,hr=>⟨h.1,hQ s a w h.2 hr⟩
 | n+1,listed,s,a,w,h,hr=>⟨fun h0=>hQ s a w (h.1 h0) hr,fun i hi=>by
   obtain ⟨o,s',ho,hst,hn⟩:=h.2 i hi
   exact zzI hΓ ho hst hr fun a' w' hr'=>zBY hΓ hQ n _ s' a' w' hn hr'⟩
inductive Ahead (ops:Array Oper) (i:Nat):Nat→Prop where
 | refl:Ahead ops i i
 | step (m j:Nat):Ahead ops i m→edge ops m j=true→Ahead ops i j
theorem zyj {i j:Nat} (h:j∈zFS ops i):Ahead ops i j:=by
 unfold zFS at h
 have:∀ (l acc:List Nat),(∀ j∈acc,Ahead ops i j)→∀ j∈l.foldl (fun acc j=>if acc.any (fun m=>edge ops m j) then j::acc else acc) acc,Ahead ops i j:=by
  intro l
  induction l with
  | nil=>intro acc ha j hj; exact ha j hj
  | cons k l ih=>
   intro acc ha j hj
   refine ih _ (fun q hq=>?_) j hj
   dsimp only at hq;split at hq
   ·rename_i hany;rcases List.mem_cons.1 hq with rfl | hq
    ·obtain ⟨m,hm,he⟩:=List.any_eq_true.1 hany;exact .step m q (ha m hm) he
    ·exact ha q hq
   ·exact ha q hq
 exact this _ [i] (fun j hj=>by simp at hj; subst hj; exact .refl) j h
theorem zw2 {m j:Nat} (h:edge ops m j=true):∃ o,ops[j]? =some o∧∃ e∈o.after,Region.binds .any e=true∧e.on=m:=by
 unfold edge at h;split at h
 ·rename_i o ho;obtain ⟨e,he,hb⟩:=Array.any_eq_true'.1 h;simp only [Bool.and_eq_true,beq_iff_eq] at hb;exact ⟨o,ho,e,he,hb.1,hb.2⟩
 ·cases h
def zr0 (ops:Array Oper) (listed:Array Bool):Prop:=∀ m o,ops[m]? =some o→listed.getD m false=true→∀ e∈o.after,Region.binds .any e=true→listed.getD e.on false=true
theorem zr0.set {listed:Array Bool} (h:zr0 ops listed) {j:Nat} (hj:j∈Region.ready .any ops listed):zr0 ops (listed.setIfInBounds j true):=by
 intro m o ho hm e he hb
 by_cases hjm:j=m
 ·subst hjm;obtain ⟨_,o',ho',hall⟩:=mem_ready.1 hj;rw [ho] at ho'; injection ho' with ho'; subst ho';exact getD_set_true (hall e he hb)
 ·rw [getD_set_ne false hjm] at hm;exact getD_set_true (h m o ho hm e he hb)
theorem zr0.reach {listed:Array Bool} (h:zr0 ops listed) {i j:Nat} (hi:listed.getD i true=false) (hr:Ahead ops i j):listed.getD j false=false:=by
 induction hr with
 | refl=>
  rcases Nat.lt_or_ge i listed.size with h' | h'
  ·simp [h'] at hi ⊢; exact hi
  ·simp [Array.getElem?_eq_none h']
 | step m j _ he ih=>
  obtain ⟨o,ho,e,he1,he2,he3⟩:=zw2 he
  cases hx:listed.getD j false with
  | false=>rfl
  | true=>
   have:=h j o ho hx e he1 he2;rw [he3,ih] at this; cases this
theorem zAN {fp:Nat→Foot} {K:St→Prop} {i:Nat} {oi:Oper} (hi:ops[i]? =some oi):∀ (fuel:Nat) (listed:Array Bool) (s s1:St),
  zr0 ops listed→(∀ j oj,ops[j]? =some oj→j≠i→listed.getD j true=false→(∀ e∈oj.after,Region.binds .any e=true→e.on≠i)→¬ Ahead ops i j→oi.apart ops oj=true∧zqt (fp i) (fp j)=true)→
  i∈Region.ready .any ops listed→zij P Γ ops oi s=some (s1,fp i)→AAny P Γ ops fp K fuel (listed.setIfInBounds i true) s1→AAny P Γ ops fp K (fuel+1) listed s:=by
 intro fuel
 induction fuel with
 | zero=>
  intro listed s s1 _ _ hr hst H
  refine ⟨fun h=>(by rw [h] at hr; cases hr),fun j hj=>?_⟩
  by_cases hji:j=i
  ·subst hji; exact ⟨oi,s1,hi,hst,H⟩
  ·have:=ready_mono hj hji;rw [H.1] at this
   cases this
 | succ fuel ih=>
  intro listed s s1 hcl hfree hr hst H
  refine ⟨fun h=>(by rw [h] at hr; cases hr),fun j hj=>?_⟩
  by_cases hji:j=i
  ·subst hji; exact ⟨oi,s1,hi,hst,H⟩
  ·obtain ⟨oj,s2,hoj,hst2,H2⟩:=H.2 j (ready_mono hj hji);obtain ⟨hjun,oj',hoj',hall⟩:=mem_ready.1 hj;rw [hoj] at hoj'; injection hoj' with hoj'; subst hoj'
   have hnot:∀ e∈oj.after,Region.binds .any e=true→e.on≠i:=fun e he hb heq=>by
    have h1:=hall e he hb;have h0:=(mem_ready.1 hr).1;rw [heq] at h1;rcases Nat.lt_or_ge i listed.size with h' | h'
    ·simp [h'] at h0 h1; rw [h0] at h1; cases h1
    ·simp [Array.getElem?_eq_none h'] at h1
   have hnr:¬ Ahead ops i j:=by
    intro h
    cases h with
    | refl=>exact hji rfl
    | step m _ hm he=>
     obtain ⟨o,ho,e,he1,he2,he3⟩:=zw2 he;rw [hoj] at ho; injection ho with ho; subst ho;have h1:=hall e he1 he2;rw [he3,hcl.reach (mem_ready.1 hr).1 hm] at h1; cases h1
   obtain ⟨hap,hin⟩:=hfree j oj hoj hji hjun hnot hnr;obtain ⟨s1',k1,k2⟩:=zAM hap hin hst hst2;refine ⟨oj,s1',hoj,k1,?_⟩
   refine ih (listed.setIfInBounds j true) s1' s2 (hcl.set hj) (fun k ok hk hki hun hno=>?_) (ready_mono hr (Ne.symm hji)) k2 ?_
   ·refine hfree k ok hk hki ?_ hno
    by_cases hjk:j=k
    ·subst hjk; exact hjun
    ·rw [getD_set_ne true hjk] at hun; exact hun
   ·rw [Array.setIfInBounds_comm _ _ hji];exact H2
theorem zzJ {fp:Nat→Foot} {K:St→Prop} (hfp:∀ i j oj,i < j→ops[j]? =some oj→(∀ e∈oj.after,Region.binds .any e=true→e.on≠i)→¬ Ahead ops i j→zqt (fp i) (fp j)=true):
  ∀ (l:List Oper) (k:Nat) (listed:Array Bool) (s s':St) (log:List Foot),zr0 ops listed→(∀ j,l[j]? =ops[k+j]?)→(∀ j,listed.getD j true=false→k≤j)→
  Region.lexFrom .any ops l.length k listed=true→zni P Γ ops l s=some (s',log)→(∀ j,j < l.length→log[j]? =some (fp (k+j)))→K s'→AAny P Γ ops fp K l.length listed s
 | [],_,_,s,s',log,_,_,_,hB,h,_,hK=>by
  simp only [zni,Option.some.injEq,Prod.mk.injEq] at h;rw [h.1]
  exact ⟨by simpa [Region.lexFrom] using hB,hK⟩
 | o::l,k,listed,s,s',log,hcl,hl,hk,hB,h,hlog,hK=>by
  have h0:ops[k]? =some o:=by simpa using (hl 0).symm
  simp only [List.length_cons,Region.lexFrom,Bool.and_eq_true] at hB;obtain ⟨⟨hr,hf⟩,hB'⟩:=hB;simp only [zni] at h
  cases hst:zij P Γ ops o s with
  | none=>rw [hst] at h; cases h
  | some p=>
   obtain ⟨s1,f⟩:=p;rw [hst] at h;simp only [Option.bind_some] at h
   cases hrest:zni P Γ ops l s1 with
   | none=>rw [hrest] at h; cases h
   | some q=>
    obtain ⟨s2,log'⟩:=q;rw [hrest] at h;simp only [Option.map_some,Option.some.injEq,Prod.mk.injEq] at h;obtain ⟨e1,e2⟩:=h;subst e1; subst e2
    have hf0:f=fp k:=by simpa using hlog 0 (by simp)
    subst hf0
    refine zAN h0 l.length listed s s1 hcl (fun j oj hj hne hun hno hnr=>⟨Region.free_spec h0 hf j oj hj hne hun hno,hfp k j oj ?_ hj hno hnr⟩) (by simpa using hr) hst ?_
    ·have:=hk j hun; omega
    ·refine zzJ hfp l (k+1) _ s1 s2 log' (hcl.set (by simpa using hr)) (fun j=>by have:=hl (j+1); simpa [Nat.add_assoc,Nat.add_comm 1 j] using this) (fun j hj=>?_) hB' hrest (fun j hj=>?_) hK
     ·by_cases hjk:k=j
      ·subst hjk
       have hlt:k < listed.size∨¬ k < listed.size:=Nat.lt_or_ge _ _ |>.imp id (by omega)
       rcases hlt with hlt | hlt
       ·simp [hlt] at hj
       ·simp [hlt] at hj
      ·rw [getD_set_ne true hjk] at hj;have:=hk j hj; omega
     ·have:=hlog (j+1) (by simpa using hj)
      simpa [Nat.add_assoc,Nat.add_comm 1 j] using this
theorem zk1:∀ {l:List Oper} {s s':St} {log:List Foot},zni P Γ ops l s=some (s',log)→log.length=l.length
 | [],_,_,_,h=>by simp only [zni,Option.some.injEq,Prod.mk.injEq] at h; rw [←h.2]; rfl
 | o::l,s,s',log,h=>by
  simp only [zni] at h
  cases hst:zij P Γ ops o s with
  | none=>rw [hst] at h; cases h
  | some p=>
   rw [hst] at h;simp only [Option.bind_some] at h
   cases hrest:zni P Γ ops l p.1 with
   | none=>rw [hrest] at h; cases h
   | some q=>
    rw [hrest] at h;simp only [Option.map_some,Option.some.injEq,Prod.mk.injEq] at h;rw [←h.2];simp [zk1 (s':=q.1) (log:=q.2) hrest]
theorem zD1 {log:List Foot} (h:chk ops log=true) {i j:Nat} {a b:Foot} {oj:Oper} (hij:i < j) (ha:log[i]? =some a) (hb:log[j]? =some b) (hj:ops[j]? =some oj)
  (hno:∀ e∈oj.after,Region.binds .any e=true→e.on≠i) (hnr:¬ Ahead ops i j):zqt a b=true:=by
 unfold chk at h;rw [Bool.or_eq_true] at h;rcases h with h | h
 ·rw [List.all_eq_true] at h;unfold zqt;rw [h a (List.mem_of_getElem? ha),h b (List.mem_of_getElem? hb)]; rfl
 ·rw [List.all_eq_true] at h;have h1:=h i (List.mem_range.2 (List.getElem?_eq_some_iff.1 ha).1);rw [List.all_eq_true] at h1;have h2:=h1 j (List.mem_range.2 (List.getElem?_eq_some_iff.1 hb).1);rw [ha,hb] at h2;simp only [Bool.or_eq_true,Bool.not_eq_true',decide_eq_false_iff_not] at h2;rcases h2 with (h2 | h2) | h2
  ·exact absurd hij h2
  ·simp only [edge,hj] at h2;obtain ⟨e,he,hbb⟩:=Array.any_eq_true'.1 h2;simp only [Bool.and_eq_true,beq_iff_eq] at hbb;exact absurd hbb.2 (hno e he hbb.1)
  ·rcases h2 with h2 | h2
   ·unfold zqt; simpa using h2
   ·exact absurd (zyj (by simpa using h2)) hnr
section
variable {N:Nat} {w0:World} {O0:Nat→Prop} {γ0:E0}
theorem Rel.drew {s:St} {a:Act} {w:World} (h:Rel N w0 O0 γ0 s a w):Rel N w0 O0 γ0 s a w.drew:=by
 obtain ⟨c,h⟩:=h;obtain ⟨m,g⟩:=h.mem.drew;exact ⟨c,m,h.slots.grow g,h.defers,h.hγ,h.stay,RelC.given' h.given g,h.cells⟩
theorem zw3 (hΓ:∀ f sp,Γ f=some sp→za2 P f sp) (hP:P.follows .mixedOrders=true) (hlex:Region.lexB .any ops=true) {id:Nat} {s s':St} {log:List Foot}
  (h:zni P Γ ops ops.toList s=some (s',log)) (hc:chk ops log=true) {a:Act} {w:World} (hr:Rel N w0 O0 γ0 s a w) {Q:Exit→Act→World→Prop}
  (hQ:∀ a w,Rel N w0 O0 γ0 s' a w→Q .normal a w):(Code.region id ops true).wp P Q a w:=by
 simp only [Region.lexB,Bool.and_eq_true] at hlex;refine wp_region_any hP ?_
 have hA:AAny P Γ ops (fun i=>log.getD i {}) (fun s=>s=s') ops.toList.length (Array.replicate ops.size false) s:=by
  refine zzJ ?_ ops.toList 0 _ s s' log (fun m o ho hm=>by
   have hlt:m < ops.size:=(Array.getElem?_eq_some_iff.1 ho).1
   simp [hlt] at hm) (by simp) (by simp) (by simpa using hlex.2) h (fun j hj=>?_) rfl
  ·intro i j oj hij hj hno hnr
   have hjl:j < log.length:=by rw [zk1 h]; simpa using (Array.getElem?_eq_some_iff.1 hj).1
   have e1:=List.getElem?_eq_getElem hjl
   have e2:=List.getElem?_eq_getElem (show i < log.length by omega)
   rw [List.getD_eq_getElem?_getD,List.getD_eq_getElem?_getD,e1,e2];exact zD1 hc hij e2 e1 hj hno hnr
  ·have hjl:j < log.length:=by rw [zk1 h]; exact hj
   have e1:=List.getElem?_eq_getElem hjl;rw [Nat.zero_add,List.getD_eq_getElem?_getD,e1]; rfl
 have:=zBY (N:=N) (w0:=w0) (O0:=O0) (γ0:=γ0) (Q:=Q) hΓ (K:=fun s=>s=s') (fun s a w hs hr=>by subst hs; exact hQ a w hr) _ _ s a w.drew hA (hr.drew)
 simpa using this
theorem zBZ (hΓ:∀ f sp,Γ f=some sp→za2 P f sp) {Q:Exit→Act→World→Prop}:∀ (l:List Oper) (k:Nat) (s s':St) (a:Act) (w:World),(∀ j,l[j]? =ops[k+j]?)→
  arun P Γ ops l s=some s'→Rel N w0 O0 γ0 s a w→(∀ a w,Rel N w0 O0 γ0 s' a w→Q .normal a w)→wpOps P ops Q (List.range' k l.length) a w
 | [],k,s,s',a,w,_,h,hr,hQ=>by
  simp only [arun,Option.some.injEq] at h;subst h
  exact hQ a w hr
 | o::l,k,s,s',a,w,hl,h,hr,hQ=>by
  have h0:ops[k]? =some o:=by simpa using (hl 0).symm
  simp only [arun] at h
  cases hst:zij P Γ ops o s with
  | none=>rw [hst] at h; cases h
  | some p=>
   obtain ⟨s1,f⟩:=p;rw [hst] at h;simp only [Option.bind_some] at h;simp only [List.length_cons,List.range'_succ];rw [wpOps_cons]
   exact zzI hΓ h0 hst hr fun a' w' hr'=>zBZ hΓ l (k+1) s1 s' a' w' (fun j=>by have:=hl (j+1); simpa [Nat.add_assoc,Nat.add_comm 1 j] using this) h hr' hQ
theorem zyk (hΓ:∀ f sp,Γ f=some sp→za2 P f sp) {id:Nat} {s s':St} (h:arun P Γ ops ops.toList s=some s') {a:Act} {w:World} (hr:Rel N w0 O0 γ0 s a w)
  {Q:Exit→Act→World→Prop} (hQ:∀ a w,Rel N w0 O0 γ0 s' a w→Q .normal a w):(Code.region id ops false).wp P Q a w:=by
 refine wp_region ?_
 have:=zBZ (Q:=Q) hΓ ops.toList 0 s s' a w (by simp) h hr hQ
 rw [List.range_eq_range'];simpa using this
end
end
end Wf

namespace Wf
open Go Go.RowKit
theorem zqu {L L':Loc} {g:Nat} (h:L' g=L g) (n:Nat):L'.get g n=L.get g n:=by unfold Loc.get; rw [h]
theorem zzK {L L':Loc} {k:Nat} (h:L' (tb k)=L (tb k)) (n i o:Nat):zeq L' k n i o=zeq L k n i o:=by unfold zeq zms; rw [zqu h]
theorem zD2 {L L':Loc} {k:Nat} (h:L' (tb k)=L (tb k)) (n i o:Nat):ziJ L' k n i o=ziJ L k n i o:=by unfold ziJ zms; rw [zqu h]
theorem zFr:∀ {ks:List Nat} {vs cs:List V} {i:Nat} {v:V},(ovs ks vs cs)[i]? =some v→v∈vs∨v∈cs
 | [],vs,cs,i,v,h=>.inr (List.mem_of_getElem? (by simpa [ovs] using h))
 | _::_,[],cs,i,v,h=>.inr (List.mem_of_getElem? (by simpa [ovs] using h))
 | k::ks,x::vs,cs,i,v,h=>by
  simp only [ovs,List.getElem?_set] at h;split at h
  ·split at h
   ·injection h with h; subst h; exact .inl (by simp)
   ·cases h
  ·rcases zFr h with h | h
   ·exact .inl (by simp [h])
   ·exact .inr h
theorem zF7 {ks:List Nat} {vs:List V} {ds:List D} {i:Nat} {v:V} (h:(ovs ks vs (ds.map .d))[i]? =some v) {g:Nat} (hg:g∈v.ids):g∈V.idsL vs:=by
 rcases zFr h with h | h
 ·exact zg2 h hg
 ·obtain ⟨d,_,rfl⟩:=List.mem_map.1 h;simp [V.ids] at hg
theorem TabRel.fewer {L L':Loc} {c:Ctx} {R:Nat→Prop} {w:World} (h:TabRel L c R w) (hT:∀ k x,za9 L' k=some x→za9 L k=some x):TabRel L' c R w:=by
 have ht:∀ k i q,zcw L' k i q→zcw L k i q:=fun k i q h=>h.of fun wr T e=>⟨wr,hT k _ e⟩
 exact ⟨fun k wr T i cs h1 h2=>h.obj k wr T i cs (hT _ _ h1) h2,fun k wr T i b h1 h2=>h.tight k wr T i b (hT _ _ h1) h2,fun k i q k' i' q' b h1 h2 h3 h4=>h.inj k i q k' i' q' b (ht _ _ _ h1) (ht _ _ _ h2) h3 h4,
  fun k T i q b h1 h2 h3=>h.wr k T i q b (hT _ _ h1) (ht _ _ _ h2) h3,fun k T i q b h1 h2 h3=>h.ro k T i q b (hT _ _ h1) (ht _ _ _ h2) h3⟩
theorem Val.drop {c:Ctx} {L L':Loc} {w:World} {N:Nat} {v:V} {u:Value} (h:Val c L w N v u) (hown:∀ b,own c L' b→own c L b):(∀ g∈v.ids,L' g=L g)→Val c L' w N v u:=by
 induction h with
 | d x v h=>exact fun _=>.d _ _ (h.out hown (Nat.le_refl _))
 | p k x v h=>exact fun _=>.p _ _ _ (h.out hown (Nat.le_refl _))
 | vref k n i o lo len v h1 h2=>
  intro hi
  have e:=hi (tb k) (by simp [V.ids])
  exact .vref k n i o lo len v (by rw [e]; exact h1) (by rw [zzK e]; exact h2)
 | vept k n i o j off v h1 h2=>
  intro hi
  have e:=hi (tb k) (by simp [V.ids])
  exact .vept k n i o j off v (by rw [e]; exact h1) (by rw [zzK e]; exact h2)
 | vmap k n i o v h1 h2=>
  intro hi
  have e:=hi (tb k) (by simp [V.ids])
  exact .vmap k n i o v (by rw [e]; exact h1) (by rw [zD2 e]; exact h2)
 | agg ds ks vs us h1 _ h3 ih=>
  intro hi
  exact .agg ds ks vs us h1 (fun i v u ha hu=>ih i v u ha hu fun g hg=>hi g (by simp only [V.ids]; exact zF7 ha hg)) h3
 | ptr g n off v h1 h2=>
  intro hi
  have e:=hi g (by simp [V.ids])
  exact .ptr g n off v (by rw [e]; exact h1) (by rw [zqu e]; exact h2)
 | ept g n i off v h1 h2=>
  intro hi
  have e:=hi g (by simp [V.ids])
  exact .ept g n i off v (by rw [e]; exact h1) (by rw [zqu e]; exact h2)
 | ref g n off len v h1 h2 h3=>
  intro hi
  have e:=hi g (by simp [V.ids])
  exact .ref g n off len v (by rw [e]; exact h1) (by rw [zqu e]; exact h2) (by rw [zqu e]; exact h3)
 | bref g n off len v h1 h2=>
  intro hi
  have e:=hi g (by simp [V.ids])
  exact .bref g n off len v (by rw [e]; exact h1) (by rw [zqu e]; exact h2)
 | map g n v h1 h2=>
  intro hi
  have e:=hi g (by simp [V.ids])
  exact .map g n v (by rw [e]; exact h1) (by rw [zqu e]; exact h2)
 | clo f a b va vb h1 h2 _ _ ih1 ih2=>
  intro hi
  refine .clo f a b va vb h1 h2 (fun i v u ha hu=>ih1 i v u ha hu fun g hg=>hi g ?_) (fun i v u ha hu=>ih2 i v u ha hu fun g hg=>hi g ?_)
  ·simp only [V.ids,List.mem_append]; exact .inl (zg2 (List.mem_of_getElem? ha) hg)
  ·simp only [V.ids,List.mem_append]; exact .inr (zg2 (List.mem_of_getElem? ha) hg)
 | tup l vs h1 _ ih=>
  intro hi
  refine .tup l vs h1 fun i v u ha hu=>ih i v u ha hu fun g hg=>hi g ?_
  simp only [V.ids]; exact zg2 (List.mem_of_getElem? ha) hg
section
variable {P:Program} {Γ:Env} {N:Nat} {w0:World} {O0:Nat→Prop} {γ0:E0}
def AExit.real:AExit→Exit
 | .normal=>.normal
 | .exit id=>.exit id
 | .ret=>.ret
theorem zF8 (p:Nat→Prop) (h:∃ n,p n):∃ n,p n∧∀ m,p m→n≤m:=by
 obtain ⟨n,hn⟩:=h
 induction n using Nat.strongRecOn with
 | _ n ih=>
  by_cases hx:∃ m,m < n∧p m
  ·obtain ⟨m,h1,h2⟩:=hx; exact ih m h1 h2
  ·exact ⟨n,hn,fun m hm=>Nat.le_of_not_lt fun hh=>hx ⟨m,hh,hm⟩⟩
end
end Wf

namespace Wf
open Go Go.RowKit
mutual
def D.free:D→Bool
 | .agg cs=>D.freeL cs
 | .sl .fresh l | .sl .full l | .sl .nil l=>D.freeL l
 | .fn _ a b=>D.freeL a && D.freeL b
 | .mp .own _ es=>D.freeE es
 | .sl _ _ | .at_ _ | .tup _ | .mp _ _ _=>false
 | _=>true
def D.freeL:List D→Bool
 | []=>true
 | d::r=>d.free && D.freeL r
def D.freeE:List (Int×D)→Bool
 | []=>true
 | p::r=>D.freeP p && D.freeE r
def D.freeP:Int×D→Bool
 | (_,d)=>d.free
end
mutual
def D.lent:D→D
 | .agg cs=>.agg (D.lentL cs)
 | .sl .nil l=>.sl .nil (D.lentL l)
 | .sl .nn []=>.sl .nn []
 | .sl .nul []=>.sl .nul []
 | .sl _ l=>.sl .lent (D.lentL l)
 | .mp _ k es=>.mp .lent k (D.lentE es)
 | .fn f a b=>.fn f (D.lentL a) (D.lentL b)
 | .at_ d=>.at_ d.lent
 | .tup l=>.tup (D.lentL l)
 | d=>d
def D.lentL:List D→List D
 | []=>[]
 | d::r=>d.lent::D.lentL r
def D.lentE:List (Int×D)→List (Int×D)
 | []=>[]
 | p::r=>D.lentP p::D.lentE r
def D.lentP:Int×D→Int×D
 | (n,d)=>(n,d.lent)
end
theorem zk2 {d:D}:∀ {l:List D},D.freeL l=true→d∈l→d.free=true
 | [],_,h=>by cases h
 | x::l,h,hd=>by
  simp only [D.freeL,Bool.and_eq_true] at h;rcases List.mem_cons.1 hd with e | e
  ·subst e; exact h.1
  ·exact zk2 h.2 e
theorem zr1 {p:Int×D}:∀ {l:List (Int×D)},D.freeE l=true→p∈l→p.2.free=true
 | [],_,h=>by cases h
 | x::l,h,hd=>by
  simp only [D.freeE,Bool.and_eq_true] at h;rcases List.mem_cons.1 hd with e | e
  ·subst e;have:=h.1;obtain ⟨n,d⟩:=p;simpa only [D.freeP] using this
  ·exact zr1 h.2 e
theorem zB0 {l:List D}:D.freeL l=l.all D.free:=by
 induction l with
 | nil=>rfl
 | cons d l ih=>simp [D.freeL,ih]
theorem zr2 (l:List D):D.lentL l=l.map D.lent:=by
 induction l with
 | nil=>rfl
 | cons d l ih=>simp [D.lentL,ih]
theorem zw4 (l:List (Int×D)):D.lentE l=l.map fun p=>(p.1,p.2.lent):=by
 induction l with
 | nil=>rfl
 | cons p l ih=>obtain ⟨n,d⟩:=p; simp [D.lentE,D.lentP,ih]
theorem Rep.free {w:World} {A A':Nat→Prop} {N:Nat} {γ} {d:D} {u:Value} (h:Rep w A N γ d u) (hA:∀ b,A' b→A b∨b < N):d.free=true→Rep w A' N γ d u:=by
 induction h with
 | undef v=>exact fun _=>.undef v
 | bool b=>exact fun _=>.bool b
 | int k n=>exact fun _=>.int k n
 | str s=>exact fun _=>.str s
 | nilp=>exact fun _=>.nilp
 | nilm=>exact fun _=>.nilm
 | nilfn=>exact fun _=>.nilfn
 | agg cs vs h1 _ h3 ih=>
  intro hf;simp only [D.free] at hf
  exact .agg cs vs h1 (fun i d v hd hv=>ih i d v hd hv (zk2 hf (List.mem_of_getElem? hd))) h3
 | tup cs vs h1 _ ih=>intro hf; cases hf
 | fn f a b va vb h1 h2 _ _ ih1 ih2=>
  intro hf;simp only [D.free,Bool.and_eq_true] at hf
  exact .fn f a b va vb h1 h2 (fun i d v hd hv=>ih1 i d v hd hv (zk2 hf.1 (List.mem_of_getElem? hd))) (fun i d v hd hv=>ih2 i d v hd hv (zk2 hf.2 (List.mem_of_getElem? hd)))
 | slE t a cap h h' h''=>exact fun _=>.slE t a cap h h' h''
 | sl t l b o sz cap vs h1 h1' h2 h3 h4 h5 h6 _ h8 ih=>
  intro hf
  have hl:D.freeL l=true∧t≠.lent:=by cases t<;>simp_all [D.free]
  refine .sl t l b o sz cap vs h1 h1' h2 h3 (fun hb=>?_) h5 h6 (fun i d hd=>ih i d hd (zk2 hl.1 (List.mem_of_getElem? hd))) h8
  rcases hA b hb with h | h
  ·exact h4 h
  ·have:=h5 hl.2; omega
 | at_ d v b o h1 h2 h3 _ ih=>intro hf; cases hf
 | h k i off b hn=>exact fun _=>.h k i off b hn
 | mp t k es b m ck h1 h2 h3 h4 h5 h6 _ ih=>
  intro hf
  have hl:D.freeE es=true∧t=.own:=by cases t<;>simp_all [D.free]
  refine .mp t k es b m ck (fun hb=>?_) h2 h3 h4 h5 h6 fun i e p he hp=>ih i e p he hp (zr1 hl.1 (List.mem_of_getElem? hp))
  rcases hA b hb with h | h
  ·exact h1 h
  ·have:=h2 hl.2; omega
theorem Rep.lent {w:World} {A:Nat→Prop} {N:Nat} {γ} {d:D} {u:Value} (h:Rep w A N γ d u) (N':Nat):Rep w A N' γ d.lent u:=by
 have hget:∀ {l:List D} {i:Nat} {d:D},(D.lentL l)[i]? =some d→∃ e,l[i]? =some e∧d=e.lent:=by
  intro l i d hd;rw [zr2,List.getElem?_map] at hd
  cases he:l[i]? with
  | none=>rw [he] at hd; cases hd
  | some e=>rw [he] at hd; injection hd with hd; exact ⟨e,rfl,hd.symm⟩
 have hgetE:∀ {l:List (Int×D)} {i:Nat} {p:Int×D},(D.lentE l)[i]? =some p→∃ e,l[i]? =some e∧p=(e.1,e.2.lent):=by
  intro l i d hd;rw [zw4,List.getElem?_map] at hd
  cases he:l[i]? with
  | none=>rw [he] at hd; cases hd
  | some e=>rw [he] at hd; injection hd with hd; exact ⟨e,rfl,hd.symm⟩
 have hlen:∀ l:List D,(D.lentL l).length=l.length:=fun l=>by rw [zr2]; simp
 have hlenE:∀ l:List (Int×D),(D.lentE l).length=l.length:=fun l=>by rw [zw4]; simp
 induction h with
 | undef v=>exact .undef v
 | bool b=>exact .bool b
 | int k n=>exact .int k n
 | str s=>exact .str s
 | nilp=>exact .nilp
 | nilm=>exact .nilm
 | nilfn=>exact .nilfn
 | agg cs vs h1 _ h3 ih=>
  exact .agg _ vs (by rw [hlen]; exact h1) (fun i d v hd hv=>by obtain ⟨e,he,rfl⟩:=hget hd; exact ih i e v he hv) h3
 | tup cs vs h1 _ ih=>
  exact .tup _ vs (by rw [hlen]; exact h1) (fun i d v hd hv=>by obtain ⟨e,he,rfl⟩:=hget hd; exact ih i e v he hv)
 | fn f a b va vb h1 h2 _ _ ih1 ih2=>
  exact .fn f _ _ va vb (by rw [hlen]; exact h1) (by rw [hlen]; exact h2) (fun i d v hd hv=>by obtain ⟨e,he,rfl⟩:=hget hd; exact ih1 i e v he hv)
   (fun i d v hd hv=>by obtain ⟨e,he,rfl⟩:=hget hd; exact ih2 i e v he hv)
 | slE t a cap h h' h''=>
  cases t with
  | nil=>exact .slE .nil a cap (fun h=>by cases h) h' (by simp)
  | nn=>exact .slE .nn a cap (fun h=>by cases h) (by simp) h''
  | nul=>exact .slE .nul a cap (fun h=>by cases h) (by simp) h''
  | _=>exact .slE .lent a cap (fun h=>by cases h) (fun h=>by cases h) (by simp)
 | sl t l b o sz cap vs h1 h1' h2 h3 h4 h5 h6 _ h8 ih=>
  have:=Rep.sl (w:=w) (A:=A) (N:=N') (γ:=γ) .lent (D.lentL l) b o sz cap vs (by intro h; apply h1; have:=hlen l; rw [h] at this; exact List.eq_nil_of_length_eq_zero this.symm) (by simp)
   (by rw [hlen]; exact h2) (fun h=>by cases h) h4 (fun h=>absurd rfl h) h6 (fun i d hd=>by obtain ⟨e,he,rfl⟩:=hget hd; exact ih i e he) (fun i hi=>h8 i (by rw [hlen] at hi; exact hi))
  rw [hlen] at this
  cases t with
  | nil=>exact absurd rfl h1'
  | nn=>cases l with
   | nil=>exact absurd rfl h1
   | cons d l=>exact this
  | nul=>cases l with
   | nil=>exact absurd rfl h1
   | cons d l=>exact this
  | _=>exact this
 | at_ d v b o h1 h2 h3 _ ih=>exact .at_ _ v b o h1 h2 h3 ih
 | h k i off b hn=>exact .h k i off b hn
 | mp t k es b m ck h1 h2 h3 h4 h5 h6 _ ih=>
  exact .mp .lent k (D.lentE es) b m ck h1 (fun h=>by cases h) h3 h4 (by rw [hlenE]; exact h5) (fun i e p he hp=>by obtain ⟨q,hq,rfl⟩:=hgetE hp; exact h6 i e q he hq)
   (fun i e p he hp=>by obtain ⟨q,hq,rfl⟩:=hgetE hp; exact ih i e q he hq)
end Wf

namespace Wf
open Go Go.RowKit
def zAO (P:Program) (s:St):ResultVar→Option V
 | .tmp t=>some (s.slots.getD t (.d .undef))
 | .cell a t=>zAB P s.L t (s.slots.getD a (.d .undef))
def zHK (sz:Nat):V→Bool
 | .ref _ _ _ _=>decide (0 < sz)
 | .map _ _=>true
 | .p _ _=>true
 | _=>false
def prep:Loc→List Nat→List V→Option (List V×Loc)
 | L,[],[]=>some ([],L)
 | L,sz::szs,v::vs=>if zHK sz v=true then (prep L szs vs).map fun x=>(v::x.1,x.2) else (toD L v).bind fun y=>(prep (L.upd y.2) szs vs).map fun x=>(.d y.1::x.1,x.2)
 | _,_,_=>none
def zom (L:Loc) (sz:Nat):V→Option (Option Nat×D)
 | .d (.sl .full [])=>some (none,if 0 < sz then .sl .own [] else .sl .full [])
 | .d (.sl .nil [])=>some (none,if 0 < sz then .sl .own [] else .sl .nil [])
 | .d x=>if x.free=true then some (none,x) else none
 | .p _ x=>if x.free=true then some (none,x) else none
 | .ref g n off len=>match off,L.get g n with
  | 0,.arr sz' els true=>if len=els.length∧sz'=sz∧els.all D.free=true∧(g < 90000∨n=0) then some (some g,.sl .own els) else none
  | _,_=>none
 | .map g n=>match L.get g n with
  | .map kk es=>if g < 90000∧D.freeE es=true then some (none,.mp .own kk es) else none
  | _=>none
 | _=>none
def zw5 (L:Loc):List Nat→List V→Option (List (Option Nat×D))
 | [],[]=>some []
 | sz::szs,v::vs=>(zom L sz v).bind fun x=>(zw5 L szs vs).map fun r=>x::r
 | _,_=>none
def zh6:List (Option Nat)→Bool
 | []=>true
 | none::r=>zh6 r
 | some g::r=> !(r.contains (some g)) && zh6 r
def ares (P:Program) (ro:Nat→Bool) (res:List ResultVar) (szs:List Nat) (s:St):Option (D×Loc):=
 (res.mapM (zAO P s)).bind fun vs0=>(prep s.L szs vs0).bind fun y=>(zw5 y.2 szs y.1).bind fun rs=>
  if zh6 (rs.map (·.1))=true∧(rs.all fun x=>match x.1 with | some g=>ro g | none=>true)=true then (match rs with
   | [(_,d)]=>some (d,y.2)
   | rs=>some (.tup (rs.map (·.2)),y.2)) else none
theorem zg4:∀ {l:List (Option Nat)},zh6 l=true→∀ (i j g:Nat),l[i]? =some (some g)→l[j]? =some (some g)→i=j
 | [],_,i,j,g,h,_=>by simp at h
 | none::l,h,i,j,g,hi,hj=>by
  cases i with
  | zero=>simp at hi
  | succ i=>
   cases j with
   | zero=>simp at hj
   | succ j=>rw [zg4 (l:=l) h i j g (by simpa using hi) (by simpa using hj)]
 | some k::l,h,i,j,g,hi,hj=>by
  simp only [zh6,Bool.and_eq_true,Bool.not_eq_true',List.contains_eq_mem,decide_eq_false_iff_not] at h
  cases i with
  | zero=>
   cases j with
   | zero=>rfl
   | succ j=>
    simp at hi hj;subst hi
    exact absurd (List.mem_of_getElem? hj) h.1
  | succ i=>
   cases j with
   | zero=>
    simp at hi hj;subst hj
    exact absurd (List.mem_of_getElem? hi) h.1
   | succ j=>rw [zg4 (l:=l) h.2 i j g (by simpa using hi) (by simpa using hj)]
theorem zug {L:Loc}:∀ {szs:List Nat} {vs:List V} {rs:List (Option Nat×D)},zw5 L szs vs=some rs→szs.length=rs.length∧vs.length=rs.length∧
  ∀ (i:Nat) (sz:Nat) (v:V) (x:Option Nat×D),szs[i]? =some sz→vs[i]? =some v→rs[i]? =some x→zom L sz v=some x
 | [],[],rs,h=>by injection h with h; subst h; exact ⟨rfl,rfl,by simp⟩
 | [],_::_,_,h=>by cases h
 | _::_,[],_,h=>by cases h
 | sz::szs,v::vs,rs,h=>by
  simp only [zw5] at h
  cases h1:zom L sz v with
  | none=>rw [h1] at h; cases h
  | some x=>
   rw [h1] at h;simp only [Option.bind_some] at h
   cases h2:zw5 L szs vs with
   | none=>rw [h2] at h; cases h
   | some r=>
    rw [h2] at h;injection h with h; subst h;obtain ⟨p1,p2,p3⟩:=zug h2
    refine ⟨by simp [p1],by simp [p2],fun i sz' v' x' e1 e2 e3=>?_⟩
    cases i with
    | zero=>simp at e1 e2 e3; subst e1; subst e2; subst e3; exact h1
    | succ i=>exact p3 i sz' v' x' (by simpa using e1) (by simpa using e2) (by simpa using e3)
section
variable {P:Program} {N:Nat} {w0:World} {O0:Nat→Prop} {γ0:E0}
theorem zD3 {c:Ctx} {s:St} {a:Act} {w:World} (hr:RelC N w0 O0 γ0 c s a w) {x:ResultVar} {v:V} (h:zAO P s x=some v):
  ∃ u,(match x with | .tmp t=>pure (a.tmps.getD t undef) | .cell q t=>(do loadVar t (←asAddr (a.tmps.getD q undef))):Sem Value).run P w=.ok u w∧Val c s.L w N v u:=by
 cases x with
 | tmp t=>
  injection h with h; subst h
  exact ⟨_,rfl,zrh hr.slots (.tmp t)⟩
 | cell q t=>
  simp only [zAO] at h
  obtain ⟨u,k1,k2⟩:=zzs hr.mem (Lr:=s.L) (fun _ _ _=>rfl) h (zrh hr.slots (.tmp q))
  refine ⟨u,?_,k2⟩;simp only [Act.eval] at k1;dsimp only;generalize a.tmps.getD q undef=p at*;rw [←k1]
  cases p with
  | pointer y=>
   cases y with
   | none=>simp [Instr.loadAt,Instr.sureAddr] at k1
   | some y=>simp [Instr.loadAt,asAddr,Instr.sureAddr]
  | _=>simp [Instr.loadAt,Instr.sureAddr] at k1
theorem zB1 {α β γ:Type} {P:Program} {w:World} {f:α→Sem γ} {g:α→Option β} {R:β→γ→Prop}:∀ (l:List α) (r:List β),l.mapM g=some r→(∀ x v,g x=some v→∃ u,(f x).run P w=.ok u w∧R v u)→
  ∃ us,(l.mapM f).run P w=.ok us w∧us.length=r.length∧∀ (i:Nat) (v:β) (u:γ),r[i]? =some v→us[i]? =some u→R v u
 | [],r,h,_=>by simp at h; subst h; exact ⟨[],by simp,rfl,by simp⟩
 | x::l,r,h,hf=>by
  simp only [List.mapM_cons] at h
  cases h1:g x with
  | none=>rw [h1] at h; cases h
  | some v=>
   rw [h1] at h
   cases h2:l.mapM g with
   | none=>rw [h2] at h; cases h
   | some r'=>
    rw [h2] at h;injection h with h; subst h;obtain ⟨u,k1,k2⟩:=hf x v h1;obtain ⟨us,q1,q2,q3⟩:=zB1 l r' h2 hf
    refine ⟨u::us,by simp [List.mapM_cons,k1,q1],by simp [q2],fun i v' u' e1 e2=>?_⟩
    cases i with
    | zero=>simp at e1 e2; subst e1; subst e2; exact k2
    | succ i=>exact q3 i v' u' (by simpa using e1) (by simpa using e2)
theorem zyl {c:Ctx} {w:World}:∀ (szs:List Nat) (vs:List V) (us:List Value) (L:Loc) (vs':List V) (L':Loc),prep L szs vs=some (vs',L')→Mem c N w0 O0 L w→Vals c L w N vs us→
  Mem c N w0 O0 L' w∧Grow c L w c L' w∧Vals c L' w N vs' us∧vs'.length=vs.length
 | [],[],us,L,vs',L',h,hm,hv=>by
  injection h with h; injection h with h1 h2; subst h1; subst h2
  exact ⟨hm,Grow.refl ..,hv,rfl⟩
 | [],_::_,_,_,_,_,h,_,_=>by cases h
 | _::_,[],_,_,_,_,h,_,_=>by cases h
 | sz::szs,v::vs,us,L,vs',L',h,hm,hv=>by
  obtain ⟨u,us',rfl,h1,h2⟩:=hv.cons_inv
  have cons:∀ {x:V} {xs:List V} {L:Loc},Val c L w N x u→Vals c L w N xs us'→Vals c L w N (x::xs) (u::us'):=by
   intro x xs L h k
   refine ⟨by simp [k.1],fun i v' u' e1 e2=>?_⟩
   cases i with
   | zero=>simp at e1 e2; subst e1; subst e2; exact h
   | succ i=>exact k.2 i v' u' (by simpa using e1) (by simpa using e2)
  simp only [prep] at h;split at h
  ·cases hp:prep L szs vs with
   | none=>rw [hp] at h; cases h
   | some x=>
    obtain ⟨xs,L1⟩:=x;rw [hp] at h;injection h with h; injection h with e1 e2; subst e1; subst e2;obtain ⟨m1,m2,m3,m4⟩:=zyl szs vs us' L xs L1 hp hm h2
    exact ⟨m1,m2,cons (h1.grow m2) m3,by simp [m4]⟩
  ·cases ht:toD L v with
   | none=>rw [ht] at h; cases h
   | some y=>
    obtain ⟨d,wr⟩:=y;rw [ht] at h;simp only [Option.bind_some] at h
    cases hp:prep (L.upd wr) szs vs with
    | none=>rw [hp] at h; cases h
    | some x=>
     obtain ⟨xs,L1⟩:=x;rw [hp] at h;injection h with h; injection h with e1 e2; subst e1; subst e2
     obtain ⟨k1,k2,k3⟩:=zBE hm (Lr:=L) (fun _ _ _=>rfl) ht h1
     obtain ⟨m1,m2,m3,m4⟩:=zyl szs vs us' (L.upd wr) xs L1 hp k1 (h2.grow k2)
     exact ⟨m1,k2.trans m2,cons (.d _ _ (k3.grow m2)) m3,by simp [m4]⟩
theorem zF9 {c:Ctx} {L:Loc} {w:World} (hm:Mem c N w0 O0 L w) {A':Nat→Prop} (hA:∀ b,A' b→own c L b∨b < N) (hmap:∀ g n kk es b,L.get g n=.map kk es→c.ι g=some b→N≤b→¬ A' b)
  {sz:Nat} {v:V} {x:Option Nat×D} {u:Value}
  (h:zom L sz v=some x) (hv:Val c L w N v u):zgK w A' N c.γ (x.1.bind c.ι) sz x.2 u∧(∀ g,x.1=some g→(g < 90000∨(L g).1=0)∧∃ sz els,(L g).2=.arr sz els true)∧∀ l,x.2≠.tup l:=by
 have data:∀ {d:D},d.free=true→Rep w (own c L) N c.γ d u→x=(none,d)→zgK w A' N c.γ (x.1.bind c.ι) sz x.2 u∧(∀ g,x.1=some g→(g < 90000∨(L g).1=0)∧∃ sz els,(L g).2=.arr sz els true)∧∀ l,x.2≠.tup l:=by
  rintro d hf hr rfl
  have hrr:=hr.free hA hf
  refine ⟨?_,fun g e=>(by cases e),fun l e=>(by rw [show d=.tup l from e] at hf; cases hf)⟩
  cases d with
  | sl t l=>cases t<;>first | exact ⟨rfl,hrr⟩ | (simp [D.free] at hf)
  | _=>exact ⟨rfl,hrr⟩
 unfold zom at h;split at h
 ·injection h with h; subst h
  refine ⟨?_,fun g e=>(by cases e),fun l e=>(by revert e; dsimp only; split<;>simp)⟩
  have hrr:=hv.dat;split
  ·refine ⟨?_,rfl⟩
   cases hrr with
   | slE _ a cap hc _ _=>exact ⟨a,cap,rfl,Nat.zero_le _,.inl (hc rfl)⟩
   | sl _ _ _ _ _ _ _ h0=>exact absurd rfl h0
  ·exact ⟨rfl,hrr.free hA rfl⟩
 ·injection h with h; subst h
  refine ⟨?_,fun g e=>(by cases e),fun l e=>(by revert e; dsimp only; split<;>simp)⟩
  have hrr:=hv.dat;split
  ·refine ⟨?_,rfl⟩
   cases hrr with
   | slE _ a cap _ hc _=>exact ⟨a,cap,rfl,Nat.zero_le _,.inl (hc rfl).2⟩
   | sl _ _ _ _ _ _ _ h0=>exact absurd rfl h0
  ·exact ⟨rfl,hrr.free hA rfl⟩
 ·split at h
  ·rename_i hf;injection h with h;exact data hf hv.dat h.symm
  ·cases h
 ·split at h
  ·rename_i hf;injection h with h;exact data hf hv.unp.dat h.symm
  ·cases h
 ·rename_i g n off len;split at h
  ·rename_i sz' els hL;split at h
   ·rename_i hc;obtain ⟨h1,h2,h3,h4⟩:=hc;injection h with h; subst h;subst h1; subst h2
    obtain ⟨e1,e2⟩:=zbW hL (by simp)
    refine ⟨?_,fun g' e=>(by injection e with e; subst e; exact ⟨by rw [e1]; exact h4,_,_,e2⟩),fun l e=>(by cases e)⟩
    have ho:=hm.obj g;rw [e2] at ho
    cases hv with
    | ref _ _ _ _ _ k1 k2 k3=>
     refine ⟨(k2 _ _ _ hL).2,?_⟩;simp only [Option.bind_some]
     cases hι:c.ι g with
     | none=>simp only [zgl,hι] at ho; exact ho
     | some b=>
      simp only [zgl,hι] at ho;obtain ⟨y,T,fz,p1,p2,p3,vs,p4⟩:=ho
      refine ⟨y,T,fz,p1,p2,p3,vs,fun i d hd=>⟨(p4 i d hd).1.free hA ?_,(p4 i d hd).2⟩⟩
      exact List.all_eq_true.1 h3 d (List.mem_of_getElem? hd)
   ·cases h
  ·cases h
 ·rename_i g n;split at h
  ·rename_i kk es hL;split at h
   ·rename_i hc;obtain ⟨hg,hf⟩:=hc;injection h with h; subst h
    refine ⟨⟨rfl,?_⟩,fun g e=>(by cases e),fun l e=>(by cases e)⟩
    obtain ⟨e1,e2⟩:=zbW hL (by simp)
    obtain ⟨b,m,ck,p1,p2,p3,p4⟩:=hm.get hL (by simp)
    have hN:=hm.mineN g b p1 (by rw [e2]; simp) (by rw [e2]; simp) hg
    cases hv with
    | map _ _ _ k1 k2=>
     obtain ⟨b',q1,rfl⟩:=k2 (by rw [hL]; simp)
     rw [p1] at q1; cases q1
     exact .mp .own kk es b m ck (hmap g n kk es b hL p1 hN) (fun _=>hN) (zbo p2) p2 p3 (fun i e p a b=>(p4 i e p a b).1) fun i e p a b=>((p4 i e p a b).2).free hA (zr1 hf (List.mem_of_getElem? b))
   ·cases h
  ·cases h
 ·cases h
theorem zGa {c:Ctx} {s:St} {a:Act} {w:World} (hr:RelC N w0 O0 γ0 c s a w) {ro:Nat→Bool} {Og:Nat→Prop} (hro:∀ g b,ro g=true→90000≤g→γ0.ι g=some b→Og b) {fn:Func} {szs:List Nat} {r:D} {L':Loc}
  (h:ares P ro fn.results.toList szs s=some (r,L')):
  ∃ v,(results fn a.tmps).run P w=.ok v w∧RelC N w0 O0 γ0 c { s with L:=L' } a w∧zpq w (fun b=>(b < N∧¬ Og b)∨c.O b) N c.γ szs r v:=by
 unfold ares at h
 cases h1:fn.results.toList.mapM (zAO P s) with
 | none=>rw [h1] at h; cases h
 | some vs0=>
 rw [h1] at h;simp only [Option.bind_some] at h
 cases h0:prep s.L szs vs0 with
 | none=>rw [h0] at h; cases h
 | some y=>
 obtain ⟨vs,L1⟩:=y;rw [h0] at h;simp only [Option.bind_some] at h
 cases h2:zw5 L1 szs vs with
 | none=>rw [h2] at h; cases h
 | some rs=>
 rw [h2] at h;simp only [Option.bind_some] at h;split at h
 rotate_left
 ·cases h
 rename_i hd;obtain ⟨hd,hroA⟩:=hd
 obtain ⟨us,q1,q2,q3⟩:=zB1 (P:=P) (w:=w) (R:=Val c s.L w N) _ _ h1 (fun x v hv=>zD3 hr hv)
 obtain ⟨m1,m2,m3,m4⟩:=zyl szs vs0 us s.L vs L1 h0 hr.mem ⟨q2,q3⟩
 have hrel:RelC N w0 O0 γ0 c { s with L:=L1 } a w:=⟨m1,hr.slots.grow m2,hr.defers,hr.hγ,fun k hk=>⟨(m2.stay k (hr.stay k hk).1).1,(hr.stay k hk).2⟩,RelC.given' hr.given m2,hr.cells⟩
 obtain ⟨z1,z2,z3⟩:=zug h2
 have hlu:us.length=rs.length:=by have:=m3.1; omega
 have hrun:(results fn a.tmps).run P w=.ok (if h:us.toArray.size=1 then us.toArray[0] else .tuple us.toArray) w:=by
  unfold results;rw [Array.mapM_eq_mapM_toList];simp only [Sem.run_bind,Sem.run_map,Sem.run_pure]
  exact congrArg (fun r:Result (List Value)=>(r.andThen fun a w'=>Result.ok a.toArray w').andThen fun a w'=>Result.ok (if h:a.size=1 then a[0] else Value.tuple a) w') q1
 let ow:Nat→Option Nat:=fun i=>((rs[i]?).bind (·.1)).bind c.ι
 have how:∀ i b,ow i=some b→∃ g d,rs[i]? =some (some g,d)∧c.ι g=some b:=by
  intro i b hb;simp only [ow] at hb
  cases hx:rs[i]? with
  | none=>rw [hx] at hb; cases hb
  | some x=>
   obtain ⟨g,d⟩:=x;rw [hx] at hb
   cases g with
   | none=>cases hb
   | some g=>exact ⟨g,d,rfl,hb⟩
 have hcomp:∀ (A':Nat→Prop),(∀ b,A' b→own c L1 b∨b < N)→(∀ g n kk es b,L1.get g n=.map kk es→c.ι g=some b→N≤b→¬ A' b)→∀ (i:Nat) (x:Option Nat×D),rs[i]? =some x→∃ sz v u,szs[i]? =some sz∧vs[i]? =some v∧us[i]? =some u∧
   zgK w A' N c.γ (x.1.bind c.ι) sz x.2 u∧(∀ g,x.1=some g→(g < 90000∨(L1 g).1=0)∧∃ sz els,(L1 g).2=.arr sz els true)∧∀ l,x.2≠.tup l:=by
  intro A' hA' hmap i x hx;have hi:=(List.getElem?_eq_some_iff.1 hx).1
  have e1:=List.getElem?_eq_getElem (show i < szs.length by omega)
  have e2:=List.getElem?_eq_getElem (show i < vs.length by omega)
  have e3:=List.getElem?_eq_getElem (show i < us.length by omega)
  obtain ⟨k1,k2⟩:=zF9 m1 hA' hmap (z3 i _ _ x e1 e2 hx) (m3.2 i _ _ e2 e3);exact ⟨_,_,_,e1,e2,e3,k1,k2⟩
 have harr0:∀ (i g:Nat) (d:D),rs[i]? =some (some g,d)→(g < 90000∨(L1 g).1=0)∧∃ sz els,(L1 g).2=.arr sz els true:=by
  intro i g d hx
  obtain ⟨_,_,_,_,_,_,_,k⟩:=hcomp (fun _=>False) (fun _ h=>h.elim) (fun _ _ _ _ _ _ _ _ h=>h) i _ hx
  exact k.1 g rfl
 have harr:∀ (i g:Nat) (d:D),rs[i]? =some (some g,d)→∃ sz els,(L1 g).2=.arr sz els true:=fun i g d hx=>(harr0 i g d hx).2
 have hlive:∀ (i g:Nat) (d:D),rs[i]? =some (some g,d)→(L1 g).2≠.dead∧(L1 g).2.live=true:=by
  intro i g d hx;obtain ⟨sz,els,e⟩:=harr i g d hx
  rw [e]; exact ⟨by simp,rfl⟩
 have hA:∀ b,(((b < N∧¬ Og b)∨c.O b)∨∃ i,ow i=some b)→own c L1 b∨b < N:=by
  rintro b ((hb | hb) | ⟨i,hb⟩)
  ·exact .inr hb.1
  ·exact .inl (.inl hb)
  ·obtain ⟨g,d,hx,hι⟩:=how i b hb;exact .inl (.inr ⟨g,hι,(hlive i g d hx).2⟩)
 have hmapA:∀ g n kk es b,L1.get g n=.map kk es→c.ι g=some b→N≤b→¬ (((b < N∧¬ Og b)∨c.O b)∨∃ i,ow i=some b):=by
  rintro g n kk es b hL hι hN ((hb | hb) | ⟨i,hb⟩)
  ·omega
  ·obtain ⟨_,e2⟩:=zbW hL (by simp)
   exact (m1.mine g b hι (by rw [e2]; simp)).2.2 hb
  ·obtain ⟨_,e2⟩:=zbW hL (by simp)
   obtain ⟨g',d,hx,hι'⟩:=how i b hb
   have:=m1.inj g g' b hι hι' (by rw [e2]; simp) (hlive i g' d hx).1
   subst this;obtain ⟨sz,els,e⟩:=harr i g d hx;rw [e2] at e; cases e
 have fin:∀ {r0:D},(match r0 with
   | .tup ds=>∃ vs:Array Value,(if h:us.toArray.size=1 then us.toArray[0] else Value.tuple us.toArray)=.tuple vs∧vs.size=ds.length∧szs.length=ds.length∧
     ∀ (i:Nat) (d:D) (u:Value) (sz:Nat),ds[i]? =some d→vs[i]? =some u→szs[i]? =some sz→zgK w (fun b=>((b < N∧¬ Og b)∨c.O b)∨∃ i,ow i=some b) N c.γ (ow i) sz d u
   | d=>∃ sz,szs=[sz]∧zgK w (fun b=>((b < N∧¬ Og b)∨c.O b)∨∃ i,ow i=some b) N c.γ (ow 0) sz d (if h:us.toArray.size=1 then us.toArray[0] else Value.tuple us.toArray))→
   zpq w (fun b=>(b < N∧¬ Og b)∨c.O b) N c.γ szs r0 (if h:us.toArray.size=1 then us.toArray[0] else .tuple us.toArray):=by
  intro r0 h
  refine ⟨ow,fun i j b hi hj=>?_,fun i b hb=>?_,h⟩
  ·obtain ⟨g,d,hx,hι⟩:=how i b hi;obtain ⟨g',d',hx',hι'⟩:=how j b hj;have:=m1.inj g g' b hι hι' (hlive i g d hx).1 (hlive j g' d' hx').1;subst this
   exact zg4 hd i j g (by rw [List.getElem?_map,hx]; rfl) (by rw [List.getElem?_map,hx']; rfl)
  ·obtain ⟨g,d,hx,hι⟩:=how i b hb;obtain ⟨k1,k2,k3⟩:=m1.mine g b hι (hlive i g d hx).1;obtain ⟨sz,els,earr⟩:=harr i g d hx
   have hrg:ro g=true:=by
    rw [List.all_eq_true] at hroA;exact hroA _ (List.mem_of_getElem? hx)
   refine ⟨k2,fun hh=>hh.elim (fun h=>?_) k3⟩
   rcases Nat.lt_or_ge g 90000 with h' | h'
   ·have:=m1.mineN g b hι (by rw [earr]; simp) (by rw [earr]; simp) h'; omega
   ·rcases (harr0 i g d hx).1 with h5 | h5
    ·omega
    ·rcases hrel.given g h5 with h6 | h6
     ·rw [show (L1 g).2=.dead from h6] at earr; cases earr
     ·exact h.2 (hro g b hrg h' (by rw [←h6]; exact hι))
 have key:L1=L'∧zpq w (fun b=>(b < N∧¬ Og b)∨c.O b) N c.γ szs r (if h:us.toArray.size=1 then us.toArray[0] else .tuple us.toArray):=by
  split at h
  ·rename_i g d;injection h with h; injection h with e1 e2; subst e1; subst e2;refine ⟨rfl,fin ?_⟩
   obtain ⟨sz,v,u,e1,e2,e3,k1,k2⟩:=hcomp _ hA hmapA 0 (g,d) (by simp)
   simp only [List.length_cons,List.length_nil] at z1 z2 hlu
   have hus:us=[u]:=by
    cases us with
    | nil=>simp at e3
    | cons x l=>
     simp at e3; subst e3
     have:l=[]:=by simpa using hlu
     rw [this]
   have hszs:szs=[sz]:=by
    cases szs with
    | nil=>simp at e1
    | cons x l=>
     simp at e1; subst e1
     have:l=[]:=by simpa using z1
     rw [this]
   have hnt:∀ l,d≠.tup l:=k2.2;rw [hus]
   cases d with
   | tup l=>exact absurd rfl (hnt l)
   | _=>exact ⟨sz,hszs,k1⟩
  ·rename_i hn;injection h with h; injection h with e1 e2; subst e1; subst e2;refine ⟨rfl,fin ?_⟩
   have hne:us.length≠1:=by
    intro h1;rw [hlu] at h1
    cases rs with
    | nil=>simp at h1
    | cons x l=>
     have:l=[]:=by simpa using h1
     subst this;exact hn x.1 x.2 rfl
   refine ⟨us.toArray,by simp [hne],by simp; omega,by simp; omega,fun i d u sz e1 e2 e3=>?_⟩
   rw [List.getElem?_map] at e1
   cases hx:rs[i]? with
   | none=>rw [hx] at e1; cases e1
   | some x=>
    rw [hx] at e1;injection e1 with e1; subst e1;obtain ⟨sz',v,u',f1,f2,f3,k1,k2⟩:=hcomp _ hA hmapA i x hx;rw [f1] at e3; injection e3 with e3; subst e3;simp at e2;rw [f3] at e2; injection e2 with e2; subst e2
    have:ow i=x.1.bind c.ι:=by simp only [ow,hx]; rfl
    rw [this]; exact k1
 obtain ⟨rfl,hres⟩:=key;exact ⟨_,hrun,hrel,hres⟩
end
end Wf

namespace Wf
open Go Go.RowKit
def given (pms:List (PM×Nat)) (ds:List D) (g:Nat):Option (Nat×List D):=
 if 90000≤g∧g < 91000 then (if (pmAt pms (g - 90000)).1=.lent then none else match ds[g - 90000]? with
  | some (.sl .own els)=>some ((pmAt pms (g - 90000)).2,els)
  | _=>none) else none
def zjD (pms:List (PM×Nat)) (ds:List D) (ks:List (Nat×Bool)) (Ts:List Tb):Loc:=fun g=>match given pms ds g with
 | some x=>(0,.arr x.1 x.2 true)
 | none=>zbB ks Ts g
def zD4 (pms:List (PM×Nat)) (i:Nat) (d:D):V:=if (pmAt pms i).1=.lent then .d d.lent else match d with
 | .sl .own els=>.ref (90000+i) 0 0 els.length
 | _=>.d .undef
def zk3 (pms:List (PM×Nat)):Nat→List D→List V
 | _,[]=>[]
 | i,d::r=>zD4 pms i d::zk3 pms (i+1) r
def zB2 (n:Nat) (pms:List (PM×Nat)) (ds:List D) (ks:List (Nat×Bool)) (Ts:List Tb):St:=
 { slots:=zk3 pms 0 ds++List.replicate (n - ds.length) (.d .undef),L:=zjD pms ds ks Ts }
def zpt (γ:Nat→Nat→Option Nat) (ρ:Nat→Nat→Nat→Option Nat) (O:Nat→Prop) (gv:Nat→Option Nat) (pms:List (PM×Nat)) (ds:List D):Ctx:=
 { ι:=fun g=>match given pms ds g with
   | some _=>gv (g - 90000)
   | none=>none,γ,ρ,O }
theorem zmc {pms:List (PM×Nat)} {ds:List D} {g:Nat} {x:Nat×List D} (h:given pms ds g=some x):∃ i,i < 1000∧g=90000+i∧(pmAt pms i).1≠.lent∧ds[i]? =some (.sl .own x.2)∧x.1=(pmAt pms i).2:=by
 unfold given at h;split at h
 ·rename_i hg;split at h
  ·cases h
  ·rename_i hp;split at h
   ·rename_i els hd;injection h with h; subst h
    exact ⟨g - 90000,by omega,by omega,hp,hd,rfl⟩
   ·cases h
 ·cases h
theorem zvt {pms:List (PM×Nat)} {ds:List D} {i:Nat} {els:List D} (hi:i < 1000) (hp:(pmAt pms i).1≠.lent) (hd:ds[i]? =some (.sl .own els)):given pms ds (90000+i)=some ((pmAt pms i).2,els):=by
 unfold given
 rw [if_pos (by omega),show 90000+i - 90000=i by omega,if_neg hp,hd]
theorem zvu {pms:List (PM×Nat)} {ds:List D} (k:Nat):given pms ds (tb k)=none:=by
 unfold given; rw [if_neg (by unfold tb; omega)]
theorem zuh {pms:List (PM×Nat)}:∀ {ds:List D} {i j:Nat},(zk3 pms i ds)[j]? =(ds[j]?).map (zD4 pms (i+j))
 | [],i,j=>by simp [zk3]
 | d::ds,i,0=>by simp [zk3]
 | d::ds,i,j+1=>by
  simp only [zk3,List.getElem?_cons_succ]
  rw [zuh,show i+1+j=i+(j+1) by omega]
theorem zmd {pms:List (PM×Nat)}:∀ {ds:List D} {i:Nat},(zk3 pms i ds).length=ds.length
 | [],i=>rfl
 | d::ds,i=>by simp [zk3,zmd]
theorem zr3 {ks:List (Nat×Bool)} {Ts:List Tb} (g:Nat):(zbB ks Ts g).1=0∧((zbB ks Ts g).2=.dead∨∃ wr T,(zbB ks Ts g).2=.tbl wr T):=by
 induction ks generalizing Ts with
 | nil=>exact ⟨rfl,.inl rfl⟩
 | cons p ks ih=>
  obtain ⟨k0,w0⟩:=p
  cases Ts with
  | nil=>exact ⟨rfl,.inl rfl⟩
  | cons T Ts=>
   simp only [zbB]
   by_cases e:g=tb k0
   ·subst e; rw [Loc.set_same]; exact ⟨rfl,.inr ⟨_,_,rfl⟩⟩
   ·rw [Loc.set_ne _ _ e]; exact ih
theorem zB3 {n:Nat} {pms:List (PM×Nat)} {ks:List (Nat×Bool)} {ds:List D} {us:List Value} {Ts:List Tb} {w:World} {γ:Nat→Nat→Option Nat} {ρ:Nat→Nat→Nat→Option Nat} {O:Nat→Prop} {gv:Nat→Option Nat} (hn:ds.length≤1000)
  (hT:TabRel (zbB ks Ts) (zjA γ ρ O) (fun b=>b < w.heap.size∧¬ (O b∨Gv gv b)) w) (hO:∀ b,O b→b < w.heap.size) (hgv:∀ i b,gv i=some b→b < w.heap.size∧¬ O b) (hinj:∀ i j b,gv i=some b→gv j=some b→i=j)
  (hargs:zt9 w (fun b=>O b∨Gv gv b) γ pms gv ds us):
  RelC w.heap.size w (fun b=>O b∨Gv gv b) ⟨γ,ρ,(· ∈ksW ks),(zpt γ ρ O gv pms ds).ι⟩ (zpt γ ρ O gv pms ds) (zB2 n pms ds ks Ts)
   { tmps:=us.toArray++Array.replicate (n - us.toArray.size) undef,defers:=[] } w:=by
 have hL:∀ g x,given pms ds g=some x→zjD pms ds ks Ts g=(0,.arr x.1 x.2 true):=fun g x h=>by unfold zjD; rw [h]
 have hLn:∀ g,given pms ds g=none→zjD pms ds ks Ts g=zbB ks Ts g:=fun g h=>by unfold zjD; rw [h]
 have hι:∀ g x,given pms ds g=some x→(zpt γ ρ O gv pms ds).ι g=gv (g - 90000):=fun g x h=>by
  show (match given pms ds g with | some _=>gv (g - 90000) | none=>none)=_
  rw [h]
 have hιn:∀ g,given pms ds g=none→(zpt γ ρ O gv pms ds).ι g=none:=fun g h=>by
  show (match given pms ds g with | some _=>gv (g - 90000) | none=>none)=_
  rw [h]
 have hιs:∀ g b,(zpt γ ρ O gv pms ds).ι g=some b→∃ x,given pms ds g=some x∧gv (g - 90000)=some b:=fun g b h=>by
  cases hg:given pms ds g with
  | none=>rw [hιn g hg] at h; cases h
  | some x=>rw [hι g x hg] at h; exact ⟨x,rfl,h⟩
 have hown:∀ b,own (zpt γ ρ O gv pms ds) (zjD pms ds ks Ts) b→O b∨Gv gv b:=by
  rintro b (h | ⟨g,h1,_⟩)
  ·exact .inl h
  ·obtain ⟨x,_,h3⟩:=hιs g b h1;exact .inr ⟨_,h3⟩
 have htb:∀ k,zjD pms ds ks Ts (tb k)=zbB ks Ts (tb k):=fun k=>hLn _ (zvu k)
 have hgiven:∀ g x,given pms ds g=some x→∃ i d u,i < 1000∧g=90000+i∧(pmAt pms i).1≠.lent∧ds[i]? =some d∧us[i]? =some u∧d=.sl .own x.2∧x.1=(pmAt pms i).2∧x.2.all D.flatEl=true∧SlAt w (gv i) x.1 0 x.2.length u∧zmu w (fun _=>False) 0 γ (gv i) x.1 x.2:=by
  intro g x h;obtain ⟨i,h1,h2,h3,h4,h5⟩:=zmc h
  have hi:i < us.length:=by rw [hargs.1]; exact za4 h4
  obtain ⟨els,e1,e2,e3,e4⟩:=(hargs.2 i _ us[i] h4 (by simp)).2 h3
  injection e1 with _ e1; subst e1
  exact ⟨i,_,us[i],h1,h2,h3,h4,by simp,rfl,h5,e2,by rw [h5]; exact e3,by rw [h5]; exact e4⟩
 refine ⟨⟨fun g=>?_,fun g g' b h1 h2 _ _=>?_,fun g b h1 _=>?_,fun g b h1 _ _ h4=>?_,?_,fun k=>hιn _ (zvu k),fun k=>?_,Nat.le_refl _,rfl,rfl,rfl,rfl,fun _ _ _=>rfl,fun b hb=>⟨hO b hb,.inl (.inl hb)⟩⟩,⟨?_,fun i v u hv hu=>?_⟩,rfl,fun _ _ _ h=>h,fun k hk=>⟨fun T e=>hk ?_,rfl,rfl⟩,fun g e=>.inr rfl,fun b x T fz hb=>⟨x,fz,hb,rfl⟩⟩
 ·show zgl _ (zjD pms ds ks Ts) w _ _ (zjD pms ds ks Ts g).2
  cases hg:given pms ds g with
  | none=>
   rw [hLn g hg]
   rcases (zr3 (ks:=ks) (Ts:=Ts) g).2 with h | ⟨wr,T,h⟩<;>rw [h]<;>trivial
  | some x=>
   rw [hL g x hg,hι g x hg];obtain ⟨i,d,u,h1,rfl,h3,h4,h5,h6,h7,h8,h9,h10⟩:=hgiven g x hg
   rw [show 90000+i - 90000=i by omega]
   have:=h10.flat (A:=own (zpt γ ρ O gv pms ds) (zjD pms ds ks Ts)) (N:=w.heap.size) h8;generalize gv i=β at this ⊢
   cases β with
   | none=>exact this
   | some b=>exact this
 ·obtain ⟨x,e1,e2⟩:=hιs g b h1;obtain ⟨x',e3,e4⟩:=hιs g' b h2;obtain ⟨i,_,rfl,_⟩:=zmc e1;obtain ⟨i',_,rfl,_⟩:=zmc e3;have:=hinj _ _ b e2 e4;omega
 ·obtain ⟨x,e1,e2⟩:=hιs g b h1;obtain ⟨k1,k2⟩:=hgv _ b e2;exact ⟨.inr (.inr ⟨_,e2⟩),k1,k2⟩
 ·obtain ⟨x,e1,e2⟩:=hιs g b h1;obtain ⟨i,_,rfl,_⟩:=zmc e1;omega
 ·exact hT.stable (c:=zjA γ ρ O) htb rfl rfl rfl fun _ _ _ _ _ _=>rfl
 ·show (zjD pms ds ks Ts (tb k)).2=.dead∨_
  rw [show (zB2 n pms ds ks Ts).L (tb k)=zbB ks Ts (tb k) from htb k,htb k]
  exact (zr3 (tb k)).2
 ·simp [zB2,zmd,hargs.1]
 ·simp only [zB2,Array.toList_append,Array.toList_replicate,List.size_toArray] at hv hu
  by_cases hi:i < us.length
  ·have hi':i < ds.length:=by rw [←hargs.1]; exact hi
   rw [List.getElem?_append_left (by simpa using hi)] at hu
   rw [List.getElem?_append_left (by rw [zmd]; exact hi'),zuh,Nat.zero_add] at hv
   have hd:ds[i]? =some ds[i]:=by simp
   rw [hd] at hv;injection hv with hv; subst hv
   have hu':us[i]? =some u:=by simpa using hu
   obtain ⟨a1,a2⟩:=hargs.2 i _ u hd hu';unfold zD4
   by_cases hp:(pmAt pms i).1=.lent
   ·rw [if_pos hp];exact .d _ _ (((a1 hp).2.out hown (Nat.le_refl _)).lent _)
   ·rw [if_neg hp];obtain ⟨els,e1,e2,e3,e4⟩:=a2 hp;rw [e1] at hd ⊢;dsimp only
    have hg:=zvt (i:=i) (by omega) hp hd
    have hget:(zB2 n pms ds ks Ts).L.get (90000+i) 0=.arr (pmAt pms i).2 els true:=by
     show Loc.get (zjD pms ds ks Ts) _ _=_;unfold Loc.get; rw [hL _ _ hg]; simp
    refine .ref _ _ _ _ _ (Nat.zero_le _) (fun sz' els' l' h=>?_) (fun sz' els' h=>?_)
    ·rw [hget] at h; cases h
     refine ⟨by omega,?_⟩
     rw [hι _ _ hg,show 90000+i - 90000=i by omega]; exact e3
    ·rw [hget] at h; cases h
  ·rw [List.getElem?_append_right (by rw [zmd,←hargs.1]; omega)] at hv
   have:=List.mem_of_getElem? hv;rw [List.mem_replicate] at this;rw [this.2];exact .d _ _ (.undef _)
 ·have e':za9 (zbB ks Ts) k=some (true,T):=by rw [←zbI (htb k)]; exact e
  obtain ⟨j,h1,_⟩:=zh4 e';exact zik.2 (List.mem_of_getElem? h1)
end Wf

namespace Wf
open Go Go.RowKit
def zqv (L:Loc):List (PM×Nat)→Nat→Option (List (List D))
 | [],_=>some []
 | (p,sz)::r,i=>if p=.mut then (match L.get (90000+i) 0 with
   | .arr sz' els true=>if sz'=sz∧els.all D.flatEl=true then (zqv L r (i+1)).map fun x=>els::x else none
   | _=>none) else zqv L r (i+1)
theorem znn {L:Loc}:∀ {pms:List (PM×Nat)} {i:Nat} {outs:List (List D)},zqv L pms i=some outs→∀ j sz,pmAt pms j=(.mut,sz)→∃ els,outs[zcT pms j]? =some els∧L.get (90000+(i+j)) 0=.arr sz els true∧els.all D.flatEl=true
 | [],i,outs,h,j,sz,hp=>by rw [zok] at hp; cases hp
 | (p,s)::r,i,outs,h,j,sz,hp=>by
  simp only [zqv] at h
  by_cases hm:p=.mut
  ·subst hm;rw [if_pos rfl] at h;split at h
   ·rename_i sz' els hL;split at h
    ·rename_i hc;obtain ⟨rfl,hf⟩:=hc
     cases ho:zqv L r (i+1) with
     | none=>rw [ho] at h; cases h
     | some os=>
      rw [ho] at h;injection h with h; subst h
      cases j with
      | zero=>
       simp [pmAt] at hp; subst hp
       exact ⟨els,by simp [zcT],hL,hf⟩
      | succ j=>
       obtain ⟨els',e1,e2,e3⟩:=znn ho j sz (by rw [←hp]; simp [pmAt])
       refine ⟨els',?_,by rw [←e2]; congr 1; omega,e3⟩
       rw [zfn];simp only [pmAt,List.getD_cons_zero,if_true,List.tail_cons];rw [Nat.add_comm,List.getElem?_cons_succ]; exact e1
    ·cases h
   ·cases h
  ·rw [if_neg hm] at h
   cases j with
   | zero=>
    simp [pmAt] at hp
    exact absurd hp.1 hm
   | succ j=>
    obtain ⟨els',e1,e2,e3⟩:=znn h j sz (by rw [←hp]; simp [pmAt])
    refine ⟨els',?_,by rw [←e2]; congr 1; omega,e3⟩
    rw [zfn];simp only [pmAt,List.getD_cons_zero,hm,if_false,List.tail_cons,Nat.zero_add];exact e1
theorem TabRel.swap {L:Loc} {c c':Ctx} {R R':Nat→Prop} {w:World} (h:TabRel L c R w) (hγ:c'.γ=c.γ) (hρ:c'.ρ=c.ρ) (hO:∀ b,c'.O b↔c.O b) (hR:∀ b,R b→R' b):TabRel L c' R' w:=by
 have ht:∀ k i q,c'.tab k i q=c.tab k i q:=fun k i q=>by cases q<;>simp only [Ctx.tab,hγ,hρ]
 refine ⟨fun k wr T i cs h1 h2=>?_,fun k wr T i b h1 h2=>?_,fun k i q k' i' q' b h1 h2 h3 h4=>?_,fun k T i q b h1 h2 h3=>?_,fun k T i q b h1 h2 h3=>?_⟩
 ·rw [hγ,hρ]; exact h.obj k wr T i cs h1 h2
 ·rw [hγ] at h2; exact h.tight k wr T i b h1 h2
 ·rw [ht] at h3 h4; exact h.inj k i q k' i' q' b h1 h2 h3 h4
 ·rw [ht] at h3; exact (hO b).2 (h.wr k T i q b h1 h2 h3)
 ·rw [ht] at h3;obtain ⟨a1,a2⟩:=h.ro k T i q b h1 h2 h3
  exact ⟨fun e=>a1 ((hO b).1 e),hR b a2⟩
theorem zui {L:Loc}:∀ {ks:List Nat} {Ts:List Tb} {k:Nat} (Lb:Loc),k ∉ ks→(Lb.upd (zh0 L ks Ts)) (tb k)=Lb (tb k)
 | [],Ts,k,Lb,_=>by cases Ts<;>rfl
 | k0::ks,[],k,Lb,_=>rfl
 | k0::ks,T::Ts,k,Lb,h=>by
  simp only [List.mem_cons,not_or] at h;simp only [zh0,Loc.upd]
  rw [zui _ h.2,Loc.set_ne _ _ (fun e=>h.1 (zfb e))]
theorem zw6 {L:Loc}:∀ {ks:List Nat} {Ts:List Tb} {j k:Nat} {T:Tb} (Lb:Loc),ks.Nodup→ks[j]? =some k→Ts[j]? =some T→(Lb.upd (zh0 L ks Ts)) (tb k)=(L.new (tb k),.tbl true T)
 | [],Ts,j,k,T,Lb,_,h,_=>by simp at h
 | k0::ks,[],j,k,T,Lb,_,_,h=>by simp at h
 | k0::ks,T0::Ts,j,k,T,Lb,hn,h1,h2=>by
  simp only [List.nodup_cons] at hn;simp only [zh0,Loc.upd]
  cases j with
  | zero=>
   simp at h1 h2; subst h1; subst h2
   rw [zui _ hn.1,Loc.set_same]
  | succ j=>exact zw6 _ hn.2 (by simpa using h1) (by simpa using h2)
theorem zme:∀ {ks:List (Nat×Bool)} {Ts Ts':List Tb} {k:Nat},Ts.length=ks.length→k ∉ ksW ks→za9 (zbB ks (zdu ks Ts Ts')) k=za9 (zbB ks Ts) k
 | [],Ts,Ts',k,_,_=>by
  have:∀ Ts,zbB [] Ts=fun _=>(0,.dead):=fun Ts=>by cases Ts<;>rfl
  rw [this,this]
 | (k0,w0)::ks,[],Ts',k,h,_=>by simp at h
 | (k0,false)::ks,T0::Ts,Ts',k,h,hk=>by
  have en:zdu ((k0,false)::ks) (T0::Ts) Ts'=T0::zdu ks Ts Ts':=by cases Ts'<;>rfl
  have hk':k ∉ ksW ks:=by simpa [ksW] using hk
  rw [en];simp only [zbB]
  have ih:=zme (Ts':=Ts') (by simpa using h) hk'
  by_cases e:k=k0
  ·subst e; unfold za9; rw [Loc.set_same,Loc.set_same]
  ·rw [zbI (Loc.set_ne _ _ fun h=>e (zfb h)),zbI (Loc.set_ne _ _ fun h=>e (zfb h))]; exact ih
 | (k0,true)::ks,T0::Ts,Ts',k,h,hk=>by
  have hk':k≠k0∧k ∉ ksW ks:=by simpa [ksW] using hk
  cases Ts' with
  | nil=>
   simp only [zdu,zbB]
   rw [zbI (Loc.set_ne _ _ fun h=>hk'.1 (zfb h)),zbI (Loc.set_ne _ _ fun h=>hk'.1 (zfb h))]
   exact zme (by simpa using h) hk'.2
  | cons T' Ts'=>
   simp only [zdu,zbB]
   rw [zbI (Loc.set_ne _ _ fun h=>hk'.1 (zfb h)),zbI (Loc.set_ne _ _ fun h=>hk'.1 (zfb h))]
   exact zme (by simpa using h) hk'.2
theorem zHL {n:Nat} {pms:List (PM×Nat)} {ks:List (Nat×Bool)} {ds:List D} {us:List Value} {Ts tbs:List Tb} {outs:List (List D)} {w:World} {γ:Nat→Nat→Option Nat} {ρ:Nat→Nat→Nat→Option Nat} {O:Nat→Prop} {gv:Nat→Option Nat} (hn:ds.length≤1000)
  (hT:TabRel (zbB ks Ts) (zjA γ ρ O) (fun b=>b < w.heap.size∧¬ (O b∨Gv gv b)) w) (hO:∀ b,O b→b < w.heap.size∧Ows (zjA γ ρ O) (zbB ks Ts) (· ∈ksW ks) b) (hgv:∀ i b,gv i=some b→b < w.heap.size∧¬ O b) (hinj:∀ i j b,gv i=some b→gv j=some b→i=j)
  (hlen:∀ i,ds.length≤i→gv i=none) (hargs:zt9 w (fun b=>O b∨Gv gv b) γ pms gv ds us) (hTl:Ts.length=ks.length) (hnd:(ks.map (·.1)).Nodup)
  {c:Ctx} {s:St} {a:Act} {w':World} (hr:RelC w.heap.size w (fun b=>O b∨Gv gv b) ⟨γ,ρ,(· ∈ksW ks),(zpt γ ρ O gv pms ds).ι⟩ c s a w')
  (htb:zkb s.L (ks.filter (·.2))=some tbs) (houts:zqv s.L pms 0=some outs) {szs:List Nat} {r:D} {v:Value} (hres:zpq w' (fun b=>(b < w.heap.size∧¬ OwnG pms gv b)∨c.O b) w.heap.size c.γ szs r v):
  Turned w w' γ c.γ ρ c.ρ O c.O pms gv ks ds Ts (zdu ks Ts tbs) outs szs r v:=by
 have h0:=zB3 (n:=n) hn hT (fun b h=>(hO b h).1) hgv hinj hargs
 have hm0:=h0.mem
 have hL0:∀ k,zjD pms ds ks Ts (tb k)=zbB ks Ts (tb k):=fun k=>by unfold zjD; rw [zvu]
 have hgat:∀ i b,gv i=some b→∃ els,given pms ds (90000+i)=some ((pmAt pms i).2,els)∧(pmAt pms i).1≠.lent:=by
  intro i b h
  have hi:i < ds.length:=by
   rcases Nat.lt_or_ge i ds.length with h' | h'
   ·exact h'
   ·rw [hlen i h'] at h; cases h
  have hd:ds[i]? =some ds[i]:=by simp
  have hu:us[i]? =some (us[i]'(by rw [hargs.1]; exact hi)):=by simp
  obtain ⟨a1,a2⟩:=hargs.2 i _ _ hd hu
  have hp:(pmAt pms i).1≠.lent:=fun hp=>by rw [(a1 hp).1] at h; cases h
  obtain ⟨els,e1,_⟩:=a2 hp;rw [e1] at hd
  exact ⟨els,zvt (by omega) hp hd,hp⟩
 have hι:∀ i b,gv i=some b→(zpt γ ρ O gv pms ds).ι (90000+i)=some b:=fun i b h=>by
  obtain ⟨els,h1,_⟩:=hgat i b h
  show (match given pms ds (90000+i) with | some _=>gv (90000+i - 90000) | none=>none)=_
  rw [h1,show 90000+i - 90000=i by omega]; exact h
 have hback:∀ i sz,pmAt pms i=(.mut,sz)→∃ els,outs[zcT pms i]? =some els∧s.L.get (90000+i) 0=.arr sz els true∧els.all D.flatEl=true∧∀ x,(zpt γ ρ O gv pms ds).ι (90000+i)=x→c.ι (90000+i)=x:=by
  intro i sz h;obtain ⟨els,e1,e2,e3⟩:=znn houts i sz h;rw [Nat.zero_add] at e2
  obtain ⟨f1,f2⟩:=zbW e2 (by simp)
  refine ⟨els,e1,e2,e3,fun x hx=>?_⟩
  rcases hr.given _ f1 with h' | h'
  ·rw [f2] at h'; cases h'
  ·rw [h']; exact hx
 have hosub:∀ b,c.O b→b < w'.heap.size∧(O b∨OwnG pms gv b∨w.heap.size≤b):=by
  intro b hb;obtain ⟨a1,a2⟩:=hr.mem.osub b hb;refine ⟨a1,?_⟩;rcases a2 with (h | ⟨i,h⟩) | h
  ·exact .inl h
  ·refine .inr (.inl ⟨i,?_,h⟩);obtain ⟨els,h1,h2⟩:=hgat i b h
   cases hp:(pmAt pms i).1 with
   | lent=>exact absurd hp h2
   | own=>rfl
   | «mut»=>
    obtain ⟨els',_,e2,_,e4⟩:=hback i _ (Prod.ext hp rfl)
    obtain ⟨f1,f2⟩:=zbW e2 (by simp)
    exact absurd hb (hr.mem.mine _ b (e4 _ (hι i b h)) (by rw [f2]; simp)).2.2
  ·exact .inr (.inr h)
 have hkept:Kept w (fun b=>O b∨Gv gv b) w':=⟨hr.mem.os,hr.mem.tape,hr.mem.output,hr.mem.size,hr.mem.keep,hr.cells⟩
 have hOws:∀ b,Ows (zpt γ ρ O gv pms ds) (zjD pms ds ks Ts) (· ∈ksW ks) b↔O b:=by
  intro b;constructor
  ·rintro ⟨k,i,q,h1,h2,h3⟩
   have h2':zcw (zbB ks Ts) k i q:=(zcw.same (hL0 k)).1 h2;obtain ⟨wr,T,hT'⟩:=h2'.tab;obtain ⟨j,hj,_⟩:=zh4 hT';obtain ⟨j',hj',e⟩:=List.mem_iff_getElem.1 (zik.1 h1)
   have:=zl9 (wr:=true) (T:=Ts[j']'(by omega)) hnd (j:=j') (by rw [←e]; exact List.getElem?_eq_getElem hj') (List.getElem?_eq_getElem (by omega))
   exact hT.wr k _ i q b this h2' (by cases q<;>exact h3)
  ·intro h;obtain ⟨k,i,q,h1,h2,h3⟩:=(hO b h).2
   exact ⟨k,i,q,h1,(zcw.same (hL0 k)).2 h2,by cases q<;>exact h3⟩
 have hOwsE:Ows (zpt γ ρ O gv pms ds) (zjD pms ds ks Ts) (· ∈ksW ks)=O:=funext fun b=>propext (hOws b)
 obtain ⟨u1,u2⟩:=zjB htb
 have hfl:(ks.filter (·.2)).length=(ksW ks).length:=by simp [ksW]
 obtain ⟨n1,n2,n3⟩:=zh5 (L:=s.L) (Ts:=Ts) (Ts':=tbs) s.L hnd hTl (by omega)
 refine ⟨hr.hγ,fun k hk=>(hr.stay k hk).2,?_,hosub,hkept,fun i sz els els' h1 h2 h3 h4=>?_,hres⟩
 ·have hnk:(ksW ks).Nodup:=List.Nodup.sublist (List.Sublist.map _ List.filter_sublist) hnd
  have:=zzG (ad:=fun _=>none) hm0 (W:=(· ∈ksW ks)) (Gb:=Gv gv) (Ob:=OwnG pms gv) (O':=c.O) (LT:=s.L) (L':=zbB ks (zdu ks Ts tbs)) (γ':=c.γ) (ρ':=c.ρ) (w':=w') hr.hγ (fun k hk=>(hr.stay k hk).2)
   (fun b ⟨i,_,h⟩=>⟨i,h⟩) (fun b ⟨i,h⟩=>by
    obtain ⟨els,h1,_⟩:=hgat i b h;refine ⟨90000+i,hι i b h,?_⟩;show (zjD pms ds ks Ts (90000+i)).2≠.dead;unfold zjD; rw [h1]; simp)
   (fun b hb=>⟨(hosub b hb).1,(hosub b hb).2.imp (hOws b).2 id⟩)
   ⟨hkept.os,hkept.tape,hkept.output,hkept.size,fun b h1 h2=>hkept.block b h1 fun h=>h2 (h.imp (hOws b).2 id),hkept.cells⟩
   (hr.mem.tab.swap (c':=zjA c.γ c.ρ c.O) rfl rfl (fun _=>Iff.rfl) (fun _ _=>trivial))
   (fun k hk=>by
    obtain ⟨T,a1,a2⟩:=n2 k hk;obtain ⟨j,hj,e⟩:=List.mem_iff_getElem.1 hk
    have hkj:(ksW ks)[j]? =some k:=by rw [←e]; simp
    have htj:tbs[j]? =some (tbs[j]'(by omega)):=by simp
    have h3:=zw6 (L:=s.L) s.L hnk hkj htj;rw [a2] at h3;injection h3 with _ h3; injection h3 with _ h3
    have hf:(ks.filter (·.2))[j]? =some (k,true):=by
     unfold ksW at hkj;rw [List.getElem?_map] at hkj
     cases hx:(ks.filter (·.2))[j]? with
     | none=>rw [hx] at hkj; cases hkj
     | some p=>
      obtain ⟨k',b⟩:=p;rw [hx] at hkj;simp at hkj; subst hkj;have:=(List.mem_filter.1 (List.mem_of_getElem? hx)).2;simp at this; rw [this]
    obtain ⟨wr0,q1,q2⟩:=u2 j k true _ hf htj;rw [q2 rfl] at q1
    exact ⟨_,q1,by rw [a1,h3]⟩)
   (fun k hk=>by
    rw [zme hTl hk];exact (zbI (hL0 k)).symm)
  refine this.swap rfl rfl (fun b=>⟨fun h=>.inr h,fun h=>?_⟩) (fun _ _=>trivial)
  rcases h with ⟨h1,h2⟩ | h
  ·exact absurd ((hOws b).2 h1) h2
  ·exact h
 ·obtain ⟨els2,e1,e2,e3,e4⟩:=hback i sz h1;rw [h3] at e1; injection e1 with e1; subst e1;refine ⟨e3,?_⟩
  have hob:=hr.mem.get e2 (by simp)
  have hg:(zpt γ ρ O gv pms ds).ι (90000+i)=gv i:=by
   have hd:=h2;have hi:=za4 h2
   have hp:(pmAt pms i).1≠.lent:=by rw [h1]; simp
   have hgg:=zvt (i:=i) (by omega) hp hd
   show (match given pms ds (90000+i) with | some _=>gv (90000+i - 90000) | none=>none)=_
   rw [hgg,show 90000+i - 90000=i by omega]
  rw [e4 _ hg] at hob
  have:zmu w' (own c s.L) w.heap.size c.γ (gv i) sz els':=by
   generalize gv i=β at hob ⊢
   cases β with
   | none=>exact hob
   | some b=>exact hob
  exact this.flat e3
end Wf

namespace Wf
open Go Go.RowKit
abbrev SoundP (P:Program) (f:FuncId) (szs:List Nat) (F:List D→Option D):Prop:=za2 P f (.pure szs F)
def Env.Ok (P:Program) (Γ:Env):Prop:=∀ f sp,Γ f=some sp→za2 P f sp
def Env.add (Γ:Env) (k:FuncId) (sp:Spec):Env:=fun f=>if f=k then some sp else Γ f
theorem Env.Ok.add {P:Program} {Γ:Env} (h:Env.Ok P Γ) {k:FuncId} {sp:Spec} (hk:za2 P k sp):Env.Ok P (Γ.add k sp):=by
 intro f s hf;unfold Env.add at hf;split at hf
 ·rename_i e;injection hf with hf; subst hf; subst e;exact hk
 ·exact h f s hf
end Wf

namespace Wf
open Go Go.RowKit Go.ChangeShapes Go.WideShapes
theorem Kept.below {w w':World} (h:Kept w (fun _=>False) w'):Below w.heap.size w w':=
 ⟨h.os,h.tape,h.output,h.size,fun k hk=>h.block k hk (fun h=>h)⟩
theorem SoundP.calls {P:Program} {f:FuncId} {szs:List Nat} {F:List D→Option D} (h:SoundP P f szs F) {ds:List D} {b:Bool} (hF:F ds=some (.bool b)) {us:List Value} {w:World}
  (hr:Reps w (fun _=>False) 0 (fun _ _=>none) ds us):Calls P f us.toArray w fun e w'=>e=.returned (.bool b)∧Below w.heap.size w w':=by
 refine (h.2 ds _ hF w _ us hr).mono fun e w' ⟨v,he,hk,hres⟩=>?_
 obtain ⟨ow,_,_,sz,_,_,hv⟩:=hres;cases hv;exact ⟨he,hk.below⟩
theorem zvv {H:Type} {enc:TypeId×Value→H} {P:Program} {f:Func} {s:ChangeSpec} {apart fresh handsOn again:Bool} {W W':World} {args:Array Value} {v:Value} {ds gs:List (DataW H)} {before pa pv:List MemPlace}
  (hW:DataW.Whole enc P f.params.toList s.vars apart W args.toList ds gs before)
  (hres:∀ (b:Nat) (sp:Nat→Bool) (hd:Bool),DataW.TrodAll enc P W' b sp hd f.resultTypes.toList (v.resultList f.resultTypes.size) (s.fn H (ds++gs)).results [])
  (hargs:∀ sp:Nat→Bool,(∀ p∈before,sp p.block=true)→DataW.TrodAll enc P W' 0 sp true f.params.toList args.toList (s.fn H (ds++gs)).args pa)
  (hvars:∀ sp:Nat→Bool,(∀ p∈before,sp p.block=true)→DataW.TrodVars enc P W' sp s.vars (s.fn H (ds++gs)).vars pv)
  (hps:before=pa++pv) (hb:Below W.heap.size W W')
  (hok:∀ (j:Nat) (t:TypeId) (r:Value),f.resultTypes[j]? =some t→(v.resultList f.resultTypes.size)[j]? =some r→Value.okWide P W' .any 0 t r):
  s.post enc P f apart fresh handsOn again W args v W':=by
 have hold:∀ p∈before,(fun b=>decide (b < W.heap.size)) p.block=true:=fun p hp=>by simpa using hW.lt p hp
 have hlt:∀ p∈before,p.block < W.heap.size:=fun p hp=>hW.lt p hp
 have hk:W.keptBut W' (· ∈before):=hb.frame _
 refine ⟨ds,gs,before,[],pa,pv,hW,hres _ _ _,hargs _ hold,hvars _ hold,World.keptBut_mono (fun p hp=>⟨hp,?_⟩) hk,fun _=>?_⟩
 ·rw [hps,List.mem_append] at hp;exact Or.inr hp
 ·obtain ⟨_,_,_,_,_,hz,hn⟩:=hW
  refine ⟨hok,_,_,([]++pa)++pv,⟨[]++pa,pv,trodAll_append (hargs _ (fun _ _=>rfl)) (hres _ _ _),hvars _ (fun _ _=>rfl),rfl,?_,?_⟩,?_⟩
  ·intro b off hp
   have hp':MemPlace.cell b off∈before:=by rw [hps]; simpa using hp
   rw [hb.frozen (p:=⟨b,off,none⟩) (hlt _ hp')];exact hz b off hp'
  ·intro ha;have:=hn ha;rw [hps] at this;simpa using this
  ·intro p hp _;rw [hps];simpa using hp
end Wf

namespace Wf
open Go Go.RowKit
def appT (L:Loc) (k g m:Nat) (T:Tb):Loc:=(L.set g ((L g).1,.dead)).set (tb k) ((L (tb k)).1,.tbl true (T++[List.replicate m .undef]))
def pubL (P:Program) (t:TypeId) (k g n:Nat) (L:Loc):Option (D×Loc):=
 match za9 L k with
 | some (true,T)=>match L.get g n with
  | .box true ds=>if zcp P t=some ds.length then (ziL (appT L k g ds.length T) k T.length 0 ds.length true false (.d (.agg ds))).map fun o=>(.h k T.length 0,(appT L k g ds.length T).upd o.wr) else none
  | .vbox true ds ks vs=>if zcp P t=some ds.length then (ziL (appT L k g ds.length T) k T.length 0 ds.length true false (.agg ds ks vs)).map fun o=>(.h k T.length 0,(appT L k g ds.length T).upd o.wr) else none
  | _=>none
 | _=>none
def pubS (P:Program) (t:TypeId) (k j:Nat) (s:St):Option St:=
 match s.slots[j]? with
 | some (.ptr g n 0)=>(pubL P t k g n s.L).map fun x=>{ slots:=s.slots.set j (.d x.1),L:=x.2 }
 | _=>none
section
variable {c:Ctx} {N:Nat} {w0:World} {O0:Nat→Prop} {L:Loc} {w:World}
theorem zAP (hm:Mem c N w0 O0 L w) {k g b:Nat} {T:Tb} {x:Array Value} {ty:TypeId} {fz:Nat×Nat}
  (hT:za9 L k=some (true,T)) (hlv:(L g).2.live=true) (hι:c.ι g=some b) (hb:w.heap[b]? =some (.cells x ty fz)) (hf:zcH w b x.size) (hone:∀ (i:Nat) (u:Value),x[i]? =some u→u.oneCell'=true):
  ∃ c',Mem c' N w0 O0 (appT L k g x.size T) w∧Grow c L w c' (appT L k g x.size T) w∧c'.γ k T.length=some b:=by
 have hgk:∀ q,g≠tb q:=by rintro q rfl; rw [hm.iotab] at hι; cases hι
 have hgd:(L g).2≠.dead:=by intro e; rw [e] at hlv; cases hlv
 obtain ⟨mb1,mb2,mb3⟩:=hm.mine g b hι hgd
 let c':Ctx:={ c with γ:=fun k' i'=>if k'=k∧i'=T.length then some b else c.γ k' i',O:=fun b'=>c.O b'∨b'=b }
 have hfresh:c.γ k T.length=none:=by
  cases h:c.γ k T.length with
  | none=>rfl
  | some b'=>have:=hm.tab.tight k true T _ b' hT h; omega
 have hγ:∀ k' i' a,c.γ k' i'=some a→c'.γ k' i'=some a:=by
  intro k' i' a h
  show (if k'=k∧i'=T.length then some b else c.γ k' i')=some a
  rw [if_neg]
  ·exact h
  ·rintro ⟨rfl,rfl⟩; rw [hfresh] at h; cases h
 have hγk:c'.γ k T.length=some b:=by show (if k=k∧T.length=T.length then some b else _)=some b; simp
 have hγo:∀ k' i',¬ (k'=k∧i'=T.length)→c'.γ k' i'=c.γ k' i':=fun k' i' h=>by
  show (if k'=k∧i'=T.length then some b else c.γ k' i')=_
  rw [if_neg h]
 let L1:=appT L k g x.size T
 have hL1k:L1 (tb k)=((L (tb k)).1,.tbl true (T++[List.replicate x.size .undef])):=by show (Loc.set _ _ _) _=_; rw [Loc.set_same]
 have hL1g:L1 g=((L g).1,.dead):=by show (Loc.set _ _ _) _=_; rw [Loc.set_ne _ _ (hgk k),Loc.set_same]
 have hL1o:∀ q,q≠g→q≠tb k→L1 q=L q:=fun q h1 h2=>by show (Loc.set _ _ _) _=_; rw [Loc.set_ne _ _ h2,Loc.set_ne _ _ h1]
 have hL1t:∀ q,q≠k→L1 (tb q)=L (tb q):=fun q h=>hL1o _ (fun e=>hgk q e.symm) (fun e=>h (zfb e))
 have htab:∀ k',za9 L1 k'=if k'=k then some (true,T++[List.replicate x.size .undef]) else za9 L k':=by
  intro k'
  by_cases e:k'=k
  ·subst e; rw [if_pos rfl]; exact zd1.2 (by rw [hL1k])
  ·rw [if_neg e]; exact zbI (hL1t k' e)
 have hlast:∀ i cs,(T++[List.replicate x.size .undef])[i]? =some cs→(i < T.length∧T[i]? =some cs)∨(i=T.length∧cs=List.replicate x.size .undef):=by
  intro i cs h
  by_cases hi:i < T.length
  ·rw [List.getElem?_append_left hi] at h; exact .inl ⟨hi,h⟩
  ·rw [List.getElem?_append_right (by omega)] at h
   have:i - T.length=0:=by
    have:=za4 h; simp at this; omega
   rw [this] at h;simp at h
   exact .inr ⟨by omega,h.symm⟩
 have hcellT:∀ i o d,zc5 (T++[List.replicate x.size .undef]) i o=some d→d.isRow=true→zc5 T i o=some d:=by
  intro i o d h hr;unfold zc5 at h ⊢
  cases hx:(T++[List.replicate x.size .undef])[i]? with
  | none=>rw [hx] at h; cases h
  | some cs=>
   rw [hx] at h;rcases hlast i cs hx with ⟨_,h1⟩ | ⟨_,h1⟩
   ·rw [h1]; exact h
   ·subst h1;have:=List.mem_of_getElem? h;rw [List.mem_replicate] at this;rw [this.2] at hr; cases hr
 have hthere:∀ k' i' q,zcw L1 k' i' q→(zcw L k' i' q∧c'.tab k' i' q=c.tab k' i' q)∨(k'=k∧i'=T.length∧q=none):=by
  intro k' i' q h
  cases q with
  | none=>
   obtain ⟨wr,T0,h1,h2⟩:=h;rw [htab] at h1
   by_cases ek:k'=k
   ·subst ek;rw [if_pos rfl] at h1; cases h1
    by_cases hi:i' < T.length
    ·exact .inl ⟨⟨_,_,hT,hi⟩,hγo _ _ fun h=>by omega⟩
    ·simp at h2
     exact .inr ⟨rfl,by omega,rfl⟩
   ·rw [if_neg ek] at h1
    exact .inl ⟨⟨_,_,h1,h2⟩,hγo _ _ fun h=>ek h.1⟩
  | some o=>
   obtain ⟨wr,T0,d,h1,h2,h3⟩:=h;refine .inl ⟨?_,rfl⟩;rw [htab] at h1
   by_cases ek:k'=k
   ·subst ek;rw [if_pos rfl] at h1; cases h1;exact ⟨_,_,d,hT,hcellT _ _ _ h2 h3,h3⟩
   ·rw [if_neg ek] at h1; exact ⟨_,_,d,h1,h2,h3⟩
 have hbno:∀ k' i' q,zcw L k' i' q→c.tab k' i' q≠some b:=by
  intro k' i' q h e;obtain ⟨wr,T',hT'⟩:=h.tab
  cases wr with
  | true=>exact mb3 (hm.tab.wr k' T' i' q b hT' h e)
  | false=>
   obtain ⟨_,a1,a2⟩:=hm.tab.ro k' T' i' q b hT' h e;rcases mb1 with h | h
   ·omega
   ·exact a2 h
 have htr:TabRel L1 c' (fun b=>b < N∧¬ O0 b) w:=by
  refine ⟨fun k' wr T0 i' cs h1 h2=>?_,fun k' wr T0 i' b' h1 h2=>?_,fun k1 i1 q1 k2 i2 q2 b' h1 h2 h3 h4=>?_,fun k' T0 i' q b' h1 h2 h3=>?_,fun k' T0 i' q b' h1 h2 h3=>?_⟩
  ·have old:∀ T1,za9 L k'=some (wr,T1)→T1[i']? =some cs→∃ (b:Nat) (x:Array Value) (ty:TypeId) (fz:Nat×Nat),c'.γ k' i'=some b∧w.heap[b]? =some (.cells x ty fz)∧zcH w b x.size∧x.size=cs.length∧
     ∀ (o:Nat) (d:D) (u:Value),cs[o]? =some d→x[o]? =some u→u.oneCell'=true∧CellOk c'.γ w (zcS k' o) (c'.ρ k' i' o) d u:=by
    intro T1 h1 h2;obtain ⟨b1,x1,ty1,fz1,p1,p2,p3,p4,p5⟩:=hm.tab.obj k' wr T1 i' cs h1 h2
    exact ⟨b1,x1,ty1,fz1,hγ _ _ _ p1,p2,p3,p4,fun o d u hd hu=>⟨(p5 o d u hd hu).1,(p5 o d u hd hu).2.mono (fun _ _=>rfl) hγ⟩⟩
   rw [htab] at h1
   by_cases ek:k'=k
   ·subst ek;rw [if_pos rfl] at h1; cases h1;rcases hlast i' cs h2 with ⟨_,h3⟩ | ⟨h3,h4⟩
    ·exact old T hT h3
    ·subst h3; subst h4
     refine ⟨b,x,ty,fz,hγk,hb,hf,by simp,fun o d u hd hu=>⟨hone o u hu,?_⟩⟩
     have:=List.mem_of_getElem? hd;rw [List.mem_replicate] at this;rw [this.2]; exact .undef u
   ·rw [if_neg ek] at h1; exact old T0 h1 h2
  ·rw [htab] at h1
   by_cases ek:k'=k
   ·subst ek;rw [if_pos rfl] at h1; cases h1
    by_cases hi:i'=T.length
    ·subst hi; simp
    ·rw [hγo _ _ fun h=>hi h.2] at h2
     have:=hm.tab.tight k' true T i' b' hT h2;simp; omega
   ·rw [if_neg ek] at h1
    rw [hγo _ _ fun h=>ek h.1] at h2
    exact hm.tab.tight k' wr T0 i' b' h1 h2
  ·rcases hthere _ _ _ h1 with ⟨a1,a2⟩ | ⟨rfl,rfl,rfl⟩<;>rcases hthere _ _ _ h2 with ⟨d1,d2⟩ | ⟨rfl,rfl,rfl⟩
   ·rw [a2] at h3; rw [d2] at h4;exact hm.tab.inj _ _ _ _ _ _ b' a1 d1 h3 h4
   ·rw [a2] at h3
    have:b'=b:=by simp only [Ctx.tab,hγk] at h4; exact (Option.some.inj h4).symm
    subst this;exact absurd h3 (hbno _ _ _ a1)
   ·rw [d2] at h4
    have:b'=b:=by simp only [Ctx.tab,hγk] at h3; exact (Option.some.inj h3).symm
    subst this;exact absurd h4 (hbno _ _ _ d1)
   ·exact ⟨rfl,rfl,rfl⟩
  ·rcases hthere _ _ _ h2 with ⟨a1,a2⟩ | ⟨rfl,rfl,rfl⟩
   ·rw [a2] at h3;rw [htab] at h1
    by_cases ek:k'=k
    ·subst ek; exact .inl (hm.tab.wr k' T i' q b' hT a1 h3)
    ·rw [if_neg ek] at h1; exact .inl (hm.tab.wr k' T0 i' q b' h1 a1 h3)
   ·simp only [Ctx.tab,hγk] at h3;exact .inr (Option.some.inj h3).symm
  ·rw [htab] at h1
   by_cases ek:k'=k
   ·rw [if_pos ek] at h1; cases h1
   ·rw [if_neg ek] at h1;rcases hthere _ _ _ h2 with ⟨a1,a2⟩ | ⟨rfl,rfl,rfl⟩
    ·rw [a2] at h3;obtain ⟨e1,e2⟩:=hm.tab.ro k' T0 i' q b' h1 a1 h3;refine ⟨?_,e2⟩
     rintro (e | e)
     ·exact e1 e
     ·subst e; exact hbno _ _ _ a1 h3
    ·exact absurd rfl ek
 have hgrow:Grow c L w c' L1 w:=by
  refine ⟨Nat.le_refl _,fun _ _ _=>rfl,?_,hγ,fun _ _ _ _ _=>rfl,zrJ hT hL1t (fun q e=>?_) (fun _ _=>rfl),fun b' y T' fz' h _=>⟨y,fz',h,rfl⟩,fun q=>?_,fun q hq=>?_⟩
  ·rintro b' _ (h | ⟨q,h1,h2⟩)
   ·rcases h with h | rfl
    ·exact .inl h
    ·exact .inr ⟨g,hι,hlv⟩
   ·by_cases e1:q=g
    ·subst e1; rw [hL1g] at h2; cases h2
    ·by_cases e2:q=tb k
     ·subst e2; rw [hL1k] at h2; cases h2
     ·rw [hL1o q e1 e2] at h2; exact .inr ⟨q,h1,h2⟩
  ·funext i'; exact hγo q i' fun h=>e h.1
  ·by_cases e1:q=g
   ·subst e1; rw [hL1g]; exact Nat.le_refl _
   ·by_cases e2:q=tb k
    ·subst e2; rw [hL1k]; exact Nat.le_refl _
    ·rw [hL1o q e1 e2]; exact Nat.le_refl _
  ·by_cases e1:q=g
   ·subst e1; rw [hL1g]; exact .inl rfl
   ·by_cases e2:q=tb k
    ·subst e2;rw [hL1k,zd1.1 hT]
     refine .inr ⟨rfl,rfl,fun i o=>⟨fun l h=>⟨l,hcellT i o _ h rfl,rfl⟩,fun kk es h=>⟨es,hcellT i o _ h rfl⟩⟩⟩
    ·rw [hL1o q e1 e2]; exact .inr ⟨rfl,zcf.refl _⟩
 have hnd:∀ q b',c'.ι q=some b'→(L1 q).2≠.dead→q≠g∧L1 q=L q∧c.ι q=some b':=by
  intro q b' h1 h2
  have e1:q≠g:=by rintro rfl; rw [hL1g] at h2; exact h2 rfl
  have e2:q≠tb k:=by rintro rfl; rw [show c'.ι (tb k)=c.ι (tb k) from rfl,hm.iotab] at h1; cases h1
  exact ⟨e1,hL1o q e1 e2,h1⟩
 refine ⟨c',⟨fun q=>?_,fun q q' b' h1 h2 h3 h4=>?_,fun q b' h1 h2=>?_,fun q b' h1 h2 h3=>?_,htr,hm.iotab,fun k'=>?_,hm.size,hm.size0,hm.os,hm.tape,hm.output,hm.keep,fun b' hb'=>?_⟩,hgrow,hγk⟩
 ·show zgl c' L1 w N (c.ι q) (L1 q).2
  by_cases e1:q=g
  ·subst e1; rw [hL1g]; trivial
  ·by_cases e2:q=tb k
   ·subst e2; rw [hL1k]; trivial
   ·rw [hL1o q e1 e2]; exact (hm.obj q).grow hgrow fun _ _ _=>rfl
 ·have h3:(L1 q).2≠.dead:=h3;have h4:(L1 q').2≠.dead:=h4;obtain ⟨_,e1,e2⟩:=hnd q b' h1 h3;obtain ⟨_,e3,e4⟩:=hnd q' b' h2 h4;rw [e1] at h3; rw [e3] at h4;exact hm.inj q q' b' e2 e4 h3 h4
 ·have h2:(L1 q).2≠.dead:=h2;obtain ⟨e0,e1,e2⟩:=hnd q b' h1 h2;rw [e1] at h2;obtain ⟨a1,a2,a3⟩:=hm.mine q b' e2 h2;refine ⟨a1,a2,?_⟩
  rintro (h | rfl)
  ·exact a3 h
  ·exact e0 (hm.inj q g b' e2 hι h2 hgd)
 ·have h2:(L1 q).2≠.dead:=h2;have h3:∀ sz els,(L1 q).2≠.trow sz els:=h3;obtain ⟨e0,e1,e2⟩:=hnd q b' h1 h2;rw [e1] at h2 h3;exact hm.mineN q b' e2 h2 h3
 ·show (L1 (tb k')).2=.dead∨∃ wr T,(L1 (tb k')).2=.tbl wr T
  by_cases e:k'=k
  ·subst e; rw [hL1k]; exact .inr ⟨_,_,rfl⟩
  ·rw [hL1t k' e]; exact hm.only k'
 ·rcases hb' with h | rfl
  ·exact hm.osub b' h
  ·exact ⟨mb2,mb1.symm⟩
theorem zB4 {b:Nat} {x:Array Value} {ty:TypeId} {fz:Nat×Nat} (hb:w.heap[b]? =some (.cells x ty fz)):put w b (splice x 0 x.toList) ty fz=w:=by
 have hx:splice x 0 x.toList=x:=by
  apply Array.ext';apply List.ext_getElem?;intro i
  rw [Array.getElem?_toList,zcA (by simp),Array.getElem?_toList]
  by_cases hi:i < x.size
  ·rw [if_pos ⟨Nat.zero_le _,by simpa using hi⟩]; simp
  ·rw [if_neg (by simp; omega)]; simp
 rw [hx];exact zzr hb
theorem zGb {P:Program} (hm:Mem c N w0 O0 L w) {t k g n:Nat} {d:D} {L2:Loc} (h:pubL P t k g n L=some (d,L2)) {u:Value} (hv:Val c L w N (.ptr g n 0) u):
  ∃ c',Mem c' N w0 O0 L2 w∧Grow c L w c' L2 w∧Val c' L2 w N (.d d) u:=by
 unfold pubL at h;split at h
 rotate_left
 ·cases h
 rename_i T hT
 have core:∀ (V0:V) (b:Nat) (x:Array Value) (ty:TypeId) (fz:Nat×Nat) (m:Nat),(L.get g n).live=true→c.ι g=some b→w.heap[b]? =some (.cells x ty fz)→zcH w b x.size→x.size=m→(∀ (i:Nat) (u:Value),x[i]? =some u→u.oneCell'=true)→
   Val c L w N V0 (.agg x)→zcp P t=some m→(ziL (appT L k g m T) k T.length 0 m true false V0).map (fun o=>(D.h k T.length 0,(appT L k g m T).upd o.wr))=some (d,L2)→
   ∃ c',Mem c' N w0 O0 L2 w∧Grow c L w c' L2 w∧Val c' L2 w N (.d d) u:=by
  intro V0 b x ty fz m hlv hι hb hf hm' hone hV hsz ho;subst hm';obtain ⟨e1,e2⟩:=zDV rfl hlv
  obtain ⟨c1,m1,g1,hγ⟩:=zAP hm hT (by rw [e2]; exact hlv) hι hb hf hone
  cases hst:ziL (appT L k g x.size T) k T.length 0 x.size true false V0 with
  | none=>rw [hst] at ho; cases ho
  | some o=>
   rw [hst] at ho;injection ho with ho; injection ho with h1 h2;subst h1
   have hu:u=.pointer (some ⟨b,0,none⟩):=by
    cases hv with
    | ptr _ _ _ _ k1 k2=>
     obtain ⟨b',q1,q2⟩:=k2 (by intro e; rw [e] at hlv; cases hlv)
     rw [hι] at q1; cases q1; exact q2
   subst hu;have hp:Val c1 (appT L k g x.size T) w N (.d (.h k T.length 0)) (.pointer (some ⟨b,0,none⟩)):=.d _ _ (.h _ _ _ b hγ)
   obtain ⟨w',r1,c2,r2,r3,_⟩:=zwJ m1 (fun _ _ _=>rfl) hsz hst hp (hV.grow g1)
   have r1':=zea (P:=P) (o:=0) (v:=.agg x) hsz hb (by simp [Value.cells]) (by omega) hf (by simpa [Value.cells] using hone)
   rw [r1'] at r1;injection r1 with _ r1;have hw:put w b (splice x 0 (Value.agg x).cells.toList) ty fz=w:=zB4 hb;rw [hw] at r1;subst r1;subst h2;exact ⟨c2,r2,g1.trans r3,hp.grow r3⟩
 split at h
 ·rename_i ds hL;split at h
  rotate_left
  ·cases h
  rename_i hsz
  obtain ⟨b,x,ty,fz,p1,p2,p3,p4,p5⟩:=hm.get hL (by simp)
  have hone:∀ (i:Nat) (u:Value),x[i]? =some u→u.oneCell'=true:=fun i u hu=>by
   have hi:i < ds.length:=by have:=zc6 hu; omega
   exact (p5 i _ u (List.getElem?_eq_getElem hi) hu).2
  exact core (.d (.agg ds)) b x ty fz ds.length (by rw [hL]; rfl) p1 p2 p3 p4 hone (.d _ _ (.agg _ _ p4 (fun i d v hd hv=>(p5 i d v hd hv).1) hone)) hsz h
 ·rename_i ds ks vs hL;split at h
  rotate_left
  ·cases h
  rename_i hsz
  obtain ⟨b,x,ty,fz,p1,p2,p3,p4,p5⟩:=hm.get hL (by simp)
  have hlen:(ovs ks vs (ds.map V.d)).length=ds.length:=by rw [zcG]; simp
  have hone:∀ (i:Nat) (u:Value),x[i]? =some u→u.oneCell'=true:=fun i u hu=>by
   have hi:i < (ovs ks vs (ds.map V.d)).length:=by have:=zc6 hu; omega
   exact (p5 i _ u (List.getElem?_eq_getElem hi) hu).2
  exact core (.agg ds ks vs) b x ty fz ds.length (by rw [hL]; rfl) p1 p2 p3 p4 hone (.agg _ _ _ _ p4 (fun i v u ha hu=>(p5 i v u ha hu).1) hone) hsz h
 ·cases h
theorem zGc {γ0:E0} {P:Program} {t k j:Nat} {s s':St} {a:Act} (h:pubS P t k j s=some s') (hr:Rel N w0 O0 γ0 s a w):Rel N w0 O0 γ0 s' a w:=by
 obtain ⟨c,hr⟩:=hr;unfold pubS at h;split at h
 rotate_left
 ·cases h
 rename_i g n hs
 cases hp:pubL P t k g n s.L with
 | none=>rw [hp] at h; cases h
 | some y=>
  obtain ⟨d,L2⟩:=y;rw [hp] at h;injection h with h; subst h
  have hj:j < a.tmps.toList.length:=by rw [hr.slots.1]; exact (List.getElem?_eq_some_iff.1 hs).1
  have hu:=List.getElem?_eq_getElem hj;obtain ⟨c',m,g',v⟩:=zGb hr.mem hp (hr.slots.2 j _ _ hs hu)
  refine ⟨c',m,⟨by simp [hr.slots.1],fun i v' u' h1 h2=>?_⟩,hr.defers,fun n i x hx=>g'.hγ n i x (hr.hγ n i x hx),fun k hk=>?_,RelC.given' hr.given g',hr.cells⟩
  ·dsimp only at h1;rw [List.getElem?_set] at h1
   by_cases e:j=i
   ·subst e;simp only [if_true] at h1;split at h1
    ·injection h1 with h1; subst h1;rw [hu] at h2; injection h2 with h2; subst h2;exact v
    ·cases h1
   ·rw [if_neg e] at h1;exact (hr.slots.2 i v' u' h1 h2).grow g'
  ·obtain ⟨a1,a2,a3⟩:=hr.stay k hk;obtain ⟨b1,b2,b3⟩:=g'.stay k a1;exact ⟨b1,b2.trans a2,b3.trans a3⟩
end
end Wf

namespace Wf
open Go Go.RowKit
theorem zhp {P:Program} {ty sz n:Nat} (h0:zdd P ty 0=some sz) (h:n≤4294967296):zdd P ty n=some sz:=by
 unfold zdd at*;split at h0
 ·split at h0
  ·split at h0
   ·rename_i hc
    rw [if_pos ⟨hc.1,hc.2.1,hc.2.2.1,hc.2.2.2.1,by simpa using h⟩]
    exact h0
   ·cases h0
  ·cases h0
 ·cases h0
section
variable {R α:Type}
def brK (b:Bool) (x y:Option R):Option R:=match b with
 | true=>x
 | false=>y
def br (b:Bool) (f:Bool→Option R):Option R:=brK b (f true) (f false)
def zan (x:Option α) (f:α→Option R):Option R:=match x with
 | some a=>f a
 | none=>none
def sif (c:Prop) [Decidable c] (x:Option R):Option R:=if c then x else none
def letN (n:Int) (f:Int→Option R):Option R:=f n
@[simp] theorem zaF (n:Int) (f:Int→Option R):letN n f=f n:=rfl
def getK (l:List α) (i:Nat) (f:α→Option R):Option R:=match l[i]? with
 | some d=>f d
 | none=>none
def jn (g:α→Option R) (f:(α→Option R)→Option R):Option R:=f g
def fixN (B:(α→Option R)→α→Option R):Nat→α→Option R
 | 0=>fun _=>none
 | n+1=>B (fixN B n)
noncomputable def fuel:Nat:=Classical.choose (⟨1099511627776,Nat.le_refl _⟩:∃ n:Nat,1099511627776≤n)
theorem zpu:1099511627776≤fuel:=Classical.choose_spec (⟨1099511627776,Nat.le_refl _⟩:∃ n:Nat,1099511627776≤n)
noncomputable def zb3 (B:(α→Option R)→α→Option R) (a:α):Option R:=fixN B fuel a
noncomputable def zIV (_:Nat) (B:(α→Option R)→α→Option R) (a:α):Option R:=zb3 B a
def zh7:List α→(List α→Option R)→Option R
 | [],k=>k []
 | a::l,k=>zh7 l fun l=>k (a::l)
theorem zdU (l:List α) (k:List α→Option R):zh7 l k=k l:=by
 induction l generalizing k with
 | nil=>rfl
 | cons a l ih=>exact ih _
def asI (k:IntKind) (d:D) (f:Int→Option R):Option R:=match d with
 | .int k' n=>if k'=k then f n else none
 | _=>none
def asB (d:D) (f:Bool→Option R):Option R:=match d with
 | .bool b=>f b
 | _=>none
def asS (d:D) (f:ByteArray→Option R):Option R:=match d with
 | .str s=>f s
 | _=>none
def asSl (d:D) (f:Tag→List D→Option R):Option R:=match d with
 | .sl t l=>f t l
 | _=>none
def zbe (d:D) (f:List D→Option R):Option R:=match d with
 | .sl .own l=>f l
 | _=>none
def zmX (d:D) (f:List D→Option R):Option R:=match d with
 | .sl .lent l=>f l
 | _=>none
def asAgg (d:D) (f:List D→Option R):Option R:=match d with
 | .agg cs=>f cs
 | _=>none
def zB5 (l:List D) (f:D→Option R):Option R:=match l with
 | [d]=>f d
 | _=>none
def zdP (d:D) (f:List D→Option R):Option R:=match d with
 | .tup cs=>f cs
 | _=>none
def zGd (g:FuncId) (d:D) (f:D→Option R):Option R:=match d with
 | .fn g' [] [.at_ x]=>if g'=g then f x else none
 | _=>none
def asH (k:Nat) (d:D) (f:Nat→Option R):Option R:=match d with
 | .h k' i 0=>if k'=k then f i else none
 | _=>none
def zpv (d:D) (f:Bool→Option R):Option R:=match d with
 | .nilp=>f true
 | .h _ _ _=>f false
 | .at_ _=>f false
 | _=>none
def zr4 (d:D) (f:Bool→Option R):Option R:=match d with
 | .nilm=>f true
 | .mp _ _ _=>f false
 | _=>none
def ziS (kk:MK) (d:D) (f:List (Int×D)→Option R):Option R:=match d with
 | .mp .own kk' es=>if kk'=kk then f es else none
 | _=>none
def zr5 (kk:MK) (d:D) (f:List (Int×D)→Option R):Option R:=match d with
 | .mp .lent kk' es=>if kk'=kk then f es else none
 | _=>none
def letT (T:Tb) (f:Tb→Option R):Option R:=f T
def zeE (l:List α) (f:α→List α→Option R):Option R:=match l with
 | a::r=>f a r
 | []=>none
def nilK (l:List α) (x:Option R):Option R:=match l with
 | []=>x
 | _::_=>none
def zD5:Nat→List α→(List α→Option R)→Option R
 | 0,l,k=>nilK l (k [])
 | n+1,l,k=>zeE l fun a r=>zD5 n r fun ay_=>k (a::ay_)
end
inductive Lf where
 | int (k:IntKind) | bool | str | sl | lent | any | arr (n:Nat) | hnd (k:Nat) | map (kk:MK) | mapo (kk:MK)
 deriving DecidableEq,Inhabited
@[reducible] def Lf.T:Lf→Type
 | .int _=>Int
 | .bool=>Bool
 | .str=>ByteArray
 | .sl=>Tag×List D
 | .lent=>List D
 | .any=>D
 | .arr _=>List D
 | .hnd _=>Nat
 | .map _=>List (Int×D)
 | .mapo _=>List (Int×D)
@[reducible] def LfT:List Lf→Type
 | []=>Unit
 | l::r=>l.T×LfT r
def Lf.one:(l:Lf)→l.T→D
 | .int k,n=>.int k n
 | .bool,b=>.bool b
 | .str,s=>.str s
 | .sl,x=>.sl x.1 x.2
 | .lent,l=>.sl .lent l
 | .any,d=>d
 | .arr _,xs=>.agg xs
 | .hnd k,i=>.h k i 0
 | .map kk,es=>.mp .lent kk es
 | .mapo kk,es=>.mp .own kk es
def Lf.mk:(l:Lf)→l.T→List D
 | .int k,n=>[.int k n]
 | .bool,b=>[.bool b]
 | .str,s=>[.str s]
 | .sl,x=>[.sl x.1 x.2]
 | .lent,l=>[.sl .lent l]
 | .any,d=>[d]
 | .arr _,xs=>xs
 | .hnd k,i=>[.h k i 0]
 | .map kk,es=>[.mp .lent kk es]
 | .mapo kk,es=>[.mp .own kk es]
def zhq:(ls:List Lf)→LfT ls→List D
 | [],_=>[]
 | l::r,x=>l.mk x.1++zhq r x.2
section
variable {R:Type}
def Lf.getOne:(l:Lf)→D→(l.T→Option R)→Option R
 | .int k,d,f=>asI k d f
 | .bool,d,f=>asB d f
 | .str,d,f=>asS d f
 | .sl,d,f=>asSl d fun t l=>f (t,l)
 | .lent,d,f=>zmX d f
 | .any,d,f=>f d
 | .arr n,d,f=>asAgg d fun cs=>sif (cs.length=n) (f cs)
 | .hnd k,d,f=>asH k d f
 | .map kk,d,f=>zr5 kk d f
 | .mapo kk,d,f=>ziS kk d f
def Lf.get (l:Lf) (cs:List D) (f:l.T→List D→Option R):Option R:=match l with
 | .arr n=>sif (n≤cs.length) (f (cs.take n) (cs.drop n))
 | .int k=>match cs with
  | d::r=>asI k d fun x=>f x r
  | []=>none
 | .bool=>match cs with
  | d::r=>asB d fun x=>f x r
  | []=>none
 | .str=>match cs with
  | d::r=>asS d fun x=>f x r
  | []=>none
 | .sl=>match cs with
  | d::r=>asSl d fun t l=>f (t,l) r
  | []=>none
 | .lent=>match cs with
  | d::r=>zmX d fun l=>f l r
  | []=>none
 | .any=>match cs with
  | d::r=>f d r
  | []=>none
 | .hnd k=>match cs with
  | d::r=>asH k d fun i=>f i r
  | []=>none
 | .map kk=>match cs with
  | d::r=>zr5 kk d fun es=>f es r
  | []=>none
 | .mapo kk=>match cs with
  | d::r=>ziS kk d fun es=>f es r
  | []=>none
def zdV:(ls:List Lf)→List D→(LfT ls→Option R)→Option R
 | [],[],f=>f ()
 | [],_::_,_=>none
 | l::ls,cs,f=>l.get cs fun x r=>zdV ls r fun y=>f (x,y)
def zaz (ls:List Lf) (cs:List D) (f:LfT ls→Option R):Option R:=zdV ls cs f
end
inductive Sh where
 | cell (l:Lf) | agg (ls:List Lf) | at1 (l:Lf) | atA (ls:List Lf) | fn1 (f:FuncId) (l:Lf)
 deriving DecidableEq,Inhabited
@[reducible] def Sh.T:Sh→Type
 | .cell l=>l.T
 | .agg ls=>LfT ls
 | .at1 l=>l.T
 | .atA ls=>LfT ls
 | .fn1 _ l=>l.T
def Sh.mk:(s:Sh)→s.T→D
 | .cell l,x=>l.one x
 | .agg ls,x=>.agg (zhq ls x)
 | .at1 l,x=>.at_ (l.one x)
 | .atA ls,x=>.at_ (.agg (zhq ls x))
 | .fn1 f l,x=>.fn f [] [.at_ (l.one x)]
def asAt {R:Type} (d:D) (f:D→Option R):Option R:=match d with
 | .at_ x=>f x
 | _=>none
def Sh.get {R:Type}:(s:Sh)→D→(s.T→Option R)→Option R
 | .cell l,d,f=>l.getOne d f
 | .agg ls,d,f=>asAgg d fun cs=>zaz ls cs f
 | .at1 l,d,f=>asAt d fun d=>l.getOne d f
 | .atA ls,d,f=>asAt d fun d=>asAgg d fun cs=>zaz ls cs f
 | .fn1 g l,d,f=>zGd g d fun d=>l.getOne d f
def tyLf (P:Program):Nat→TypeId→Option (List Lf)
 | 0,_=>none
 | d+1,t=>match P.underlying t with
  | some (.int k)=>some [.int k]
  | some .bool=>some [.bool]
  | some .string=>some [.str]
  | some (.slice _)=>some [.sl]
  | some (.struct fs)=>(fs.toList.mapM fun f=>tyLf P d f.type).map List.flatten
  | some (.array n e)=>(zcp P e).map fun sz=>[.arr (n*sz)]
  | some _=>some [.any]
  | none=>none
def tySh (P:Program) (t:TypeId):Option Sh:=
 match P.underlying t with
 | some (.struct _)=>(tyLf P 8 t).map .agg
 | _=>match tyLf P 8 t with
  | some [l]=>some (.cell l)
  | _=>none
section
variable {R:Type}
def decT (P:Program) (t:TypeId) (d:D) (f:D→Option R):Option R:=
 match zmt P t with
 | some (kk,_)=>ziS kk d fun es=>f (.mp .own kk es)
 | none=>match tySh P t with
  | some sh=>sh.get d fun x=>f (sh.mk x)
  | none=>none
def decP (P:Program) (own:Bool) (hint:Option Sh) (t:TypeId) (d:D) (f:D→Option R):Option R:=
 if own then zbe d fun l=>f (.sl .own l)
 else match hint with
 | some sh=>sh.get d fun x=>f (sh.mk x)
 | none=>match zFQ P t with
  | some k=>asH k d fun i=>f (.h k i 0)
  | none=>match zmt P t with
  | some (kk,_)=>zr5 kk d fun es=>f (.mp .lent kk es)
  | none=>match tySh P t with
   | some (.cell .sl)=>zmX d fun l=>f (.sl .lent l)
   | some sh=>sh.get d fun x=>f (sh.mk x)
   | none=>none
abbrev zvw:=List (Nat×Sh)
def zvw.at:zvw→Nat→Option Sh
 | [],_=>none
 | (i,s)::r,j=>if i=j then some s else zvw.at r j
def zAQ (P:Program) (pms:List (PM×Nat)) (hs:zvw):Nat→List TypeId→List D→(List D→Option R)→Option R
 | _,[],[],f=>f []
 | i,[],d::ds,f=>match hs.at i with
  | some sh=>sh.get d fun x=>zAQ P pms hs (i+1) [] ds fun xs=>f (sh.mk x::xs)
  | none=>none
 | i,t::ts,d::ds,f=>decP P (decide ((pmAt pms i).1≠.lent)) (hs.at i) t d fun x=>zAQ P pms hs (i+1) ts ds fun xs=>f (x::xs)
 | _,_,_,_=>none
theorem zaP {c:Prop} [Decidable c] {x:Option R} {r:R} (h:sif c x=some r):c∧x=some r:=by
 unfold sif at h;split at h
 ·exact ⟨by assumption,h⟩
 ·cases h
theorem zcK {A B:Prop} [Decidable A] [Decidable B] {x:Option R} {r:R} (h:sif A (sif B (x))=some r):(A∧B)∧x=some r:=by
 obtain ⟨a,h⟩:=zaP h;obtain ⟨b,h⟩:=zaP h;exact ⟨⟨a,b⟩,h⟩
theorem zdB {A B C:Prop} [Decidable A] [Decidable B] [Decidable C] {x:Option R} {r:R} (h:sif A (sif B (sif C (x)))=some r):(A∧B∧C)∧x=some r:=by
 obtain ⟨a,h⟩:=zaP h;obtain ⟨b,h⟩:=zcK h;exact ⟨⟨a,b⟩,h⟩
theorem zcL {A B C D':Prop} [Decidable A] [Decidable B] [Decidable C] [Decidable D'] {x:Option R} {r:R} (h:sif A (sif B (sif C (sif D' (x))))=some r):(A∧B∧C∧D')∧x=some r:=by
 obtain ⟨a,h⟩:=zaP h;obtain ⟨b,h⟩:=zdB h;exact ⟨⟨a,b⟩,h⟩
theorem zon {A B C D' E:Prop} [Decidable A] [Decidable B] [Decidable C] [Decidable D'] [Decidable E] {x:Option R} {r:R} (h:sif A (sif B (sif C (sif D' (sif E (x)))))=some r):(A∧B∧C∧D'∧E)∧x=some r:=by
 obtain ⟨a,h⟩:=zaP h;obtain ⟨b,h⟩:=zcL h;exact ⟨⟨a,b⟩,h⟩
theorem zoo {A B C D' E F:Prop} [Decidable A] [Decidable B] [Decidable C] [Decidable D'] [Decidable E] [Decidable F] {x:Option R} {r:R} (h:sif A (sif B (sif C (sif D' (sif E (sif F (x))))))=some r):(A∧B∧C∧D'∧E∧F)∧x=some r:=by
 obtain ⟨a,h⟩:=zaP h;obtain ⟨b,h⟩:=zon h;exact ⟨⟨a,b⟩,h⟩
theorem zB6 {A B C D' E F G:Prop} [Decidable A] [Decidable B] [Decidable C] [Decidable D'] [Decidable E] [Decidable F] [Decidable G] {x:Option R} {r:R} (h:sif A (sif B (sif C (sif D' (sif E (sif F (sif G (x)))))))=some r):(A∧B∧C∧D'∧E∧F∧G)∧x=some r:=by
 obtain ⟨a,h⟩:=zaP h;obtain ⟨b,h⟩:=zoo h;exact ⟨⟨a,b⟩,h⟩
theorem zvx {b:Bool} {f:Bool→Option R} {r:R} (h:br b f=some r):f b=some r:=by
 cases b<;>exact h
theorem zuj {α:Type} {x:Option α} {f:α→Option R} {r:R} (h:zan x f=some r):∃ a,x=some a∧f a=some r:=by
 cases x with
 | none=>cases h
 | some a=>exact ⟨a,rfl,h⟩
theorem zcM {α:Type} {l:List α} {i:Nat} {f:α→Option R} {r:R} (h:getK l i f=some r):∃ d,l[i]? =some d∧f d=some r:=by
 unfold getK at h;split at h
 ·exact ⟨_,by assumption,h⟩
 ·cases h
theorem zzL {k:IntKind} {d:D} {f:Int→Option R} {r:R} (h:asI k d f=some r):∃ n,d=.int k n∧f n=some r:=by
 unfold asI at h;split at h
 ·split at h
  ·rename_i e; subst e; exact ⟨_,rfl,h⟩
  ·cases h
 ·cases h
theorem zzM {d:D} {f:Bool→Option R} {r:R} (h:asB d f=some r):∃ n,d=.bool n∧f n=some r:=by
 unfold asB at h;split at h
 ·exact ⟨_,rfl,h⟩
 ·cases h
theorem zzN {d:D} {f:ByteArray→Option R} {r:R} (h:asS d f=some r):∃ n,d=.str n∧f n=some r:=by
 unfold asS at h;split at h
 ·exact ⟨_,rfl,h⟩
 ·cases h
theorem zAR {g:FuncId} {d:D} {f:D→Option R} {r:R} (h:zGd g d f=some r):∃ x,d=.fn g [] [.at_ x]∧f x=some r:=by
 unfold zGd at h;split at h
 ·split at h
  ·rename_i e; subst e; exact ⟨_,rfl,h⟩
  ·cases h
 ·cases h
theorem zw7 {d:D} {f:Tag→List D→Option R} {r:R} (h:asSl d f=some r):∃ t l,d=.sl t l∧f t l=some r:=by
 unfold asSl at h;split at h
 ·exact ⟨_,_,rfl,h⟩
 ·cases h
theorem zmf {d:D} {f:List D→Option R} {r:R} (h:zbe d f=some r):∃ l,d=.sl .own l∧f l=some r:=by
 unfold zbe at h;split at h
 ·exact ⟨_,rfl,h⟩
 ·cases h
theorem zno {d:D} {f:List D→Option R} {r:R} (h:zmX d f=some r):∃ l,d=.sl .lent l∧f l=some r:=by
 unfold zmX at h;split at h
 ·exact ⟨_,rfl,h⟩
 ·cases h
theorem ziT {d:D} {f:List D→Option R} {r:R} (h:asAgg d f=some r):∃ l,d=.agg l∧f l=some r:=by
 unfold asAgg at h;split at h
 ·exact ⟨_,rfl,h⟩
 ·cases h
theorem zw8 {d:D} {f:D→Option R} {r:R} (h:asAt d f=some r):∃ l,d=.at_ l∧f l=some r:=by
 unfold asAt at h;split at h
 ·exact ⟨_,rfl,h⟩
 ·cases h
theorem zop {k:Nat} {d:D} {f:Nat→Option R} {r:R} (h:asH k d f=some r):∃ i,d=.h k i 0∧f i=some r:=by
 unfold asH at h;split at h
 ·split at h
  ·rename_i e; subst e; exact ⟨_,rfl,h⟩
  ·cases h
 ·cases h
theorem zuk {d:D} {f:Bool→Option R} {r:R} (h:zpv d f=some r):(d=.nilp∧f true=some r)∨(((∃ k i o,d=.h k i o)∨∃ x,d=.at_ x)∧f false=some r):=by
 unfold zpv at h;split at h
 ·exact .inl ⟨rfl,h⟩
 ·exact .inr ⟨.inl ⟨_,_,_,rfl⟩,h⟩
 ·exact .inr ⟨.inr ⟨_,rfl⟩,h⟩
 ·cases h
theorem zym {d:D} {f:Bool→Option R} {r:R} (h:zr4 d f=some r):(d=.nilm∧f true=some r)∨((∃ t k es,d=.mp t k es)∧f false=some r):=by
 unfold zr4 at h;split at h
 ·exact .inl ⟨rfl,h⟩
 ·exact .inr ⟨⟨_,_,_,rfl⟩,h⟩
 ·cases h
theorem zhr {kk:MK} {d:D} {f:List (Int×D)→Option R} {r:R} (h:ziS kk d f=some r):∃ es,d=.mp .own kk es∧f es=some r:=by
 unfold ziS at h;split at h
 ·split at h
  ·rename_i e; subst e; exact ⟨_,rfl,h⟩
  ·cases h
 ·cases h
theorem zpw {kk:MK} {d:D} {f:List (Int×D)→Option R} {r:R} (h:zr5 kk d f=some r):∃ es,d=.mp .lent kk es∧f es=some r:=by
 unfold zr5 at h;split at h
 ·split at h
  ·rename_i e; subst e; exact ⟨_,rfl,h⟩
  ·cases h
 ·cases h
theorem zul {α:Type} {l:List α} {f:α→List α→Option R} {r:R} (h:zeE l f=some r):∃ a l',l=a::l'∧f a l'=some r:=by
 unfold zeE at h;split at h
 ·exact ⟨_,_,rfl,h⟩
 ·cases h
theorem zr6 {α:Type} {l:List α} {x:Option R} {r:R} (h:nilK l x=some r):l=[]∧x=some r:=by
 unfold nilK at h;split at h
 ·exact ⟨rfl,h⟩
 ·cases h
theorem zpx {α:Type} {r:R}:∀ {n:Nat} {l:List α} {k:List α→Option R},zD5 n l k=some r→l.length=n∧k l=some r
 | 0,l,k,h=>by
  obtain ⟨e,h⟩:=zr6 h
  subst e; exact ⟨rfl,h⟩
 | n+1,l,k,h=>by
  obtain ⟨a,l',e,h⟩:=zul h;subst e
  obtain ⟨e,h⟩:=zpx (k:=fun ay_=>k (a::ay_)) h
  exact ⟨by simp [e],h⟩
theorem zeS {T:Tb} {f:Tb→Option R} {r:R} (h:letT T f=some r):f T=some r:=h
theorem zum {d:D} {f:List D→Option R} {r:R} (h:zdP d f=some r):∃ l,d=.tup l∧f l=some r:=by
 unfold zdP at h;split at h
 ·exact ⟨_,rfl,h⟩
 ·cases h
theorem Lf.getOne_some {l:Lf} {d:D} {f:l.T→Option R} {r:R} (h:l.getOne d f=some r):∃ x,d=l.one x∧f x=some r:=by
 cases l with
 | int k=>exact zzL h
 | bool=>exact zzM h
 | str=>exact zzN h
 | sl=>obtain ⟨t,l,e,h⟩:=zw7 h; exact ⟨(t,l),e,h⟩
 | lent=>exact zno h
 | any=>exact ⟨d,rfl,h⟩
 | arr n=>
  obtain ⟨cs,e,h⟩:=ziT h
  exact ⟨cs,e,(zaP h).2⟩
 | hnd k=>exact zop h
 | map kk=>exact zpw h
 | mapo kk=>exact zhr h
theorem Lf.get_some {l:Lf} {cs:List D} {f:l.T→List D→Option R} {r:R} (h:l.get cs f=some r):∃ x rest,cs=l.mk x++rest∧f x rest=some r:=by
 cases l with
 | arr n=>
  obtain ⟨_,h⟩:=zaP h
  exact ⟨_,_,(List.take_append_drop n cs).symm,h⟩
 | int k=>
  cases cs with
  | nil=>cases h
  | cons d cs=>obtain ⟨n,e,h2⟩:=zzL (f:=fun x=>f x cs) h; subst e; exact ⟨n,cs,rfl,h2⟩
 | bool=>
  cases cs with
  | nil=>cases h
  | cons d cs=>obtain ⟨n,e,h⟩:=zzM h; subst e; exact ⟨n,cs,rfl,h⟩
 | str=>
  cases cs with
  | nil=>cases h
  | cons d cs=>obtain ⟨n,e,h⟩:=zzN h; subst e; exact ⟨n,cs,rfl,h⟩
 | sl=>
  cases cs with
  | nil=>cases h
  | cons d cs=>obtain ⟨t,l,e,h⟩:=zw7 h; subst e; exact ⟨(t,l),cs,rfl,h⟩
 | lent=>
  cases cs with
  | nil=>cases h
  | cons d cs=>obtain ⟨l,e,h⟩:=zno h; subst e; exact ⟨l,cs,rfl,h⟩
 | any=>
  cases cs with
  | nil=>cases h
  | cons d cs=>exact ⟨d,cs,rfl,h⟩
 | hnd k=>
  cases cs with
  | nil=>cases h
  | cons d cs=>obtain ⟨i,e,h2⟩:=zop (f:=fun x=>f x cs) h; subst e; exact ⟨i,cs,rfl,h2⟩
 | map kk=>
  cases cs with
  | nil=>cases h
  | cons d cs=>obtain ⟨l,e,h2⟩:=zpw (f:=fun x=>f x cs) h; subst e; exact ⟨l,cs,rfl,h2⟩
 | mapo kk=>
  cases cs with
  | nil=>cases h
  | cons d cs=>obtain ⟨l,e,h2⟩:=zhr (f:=fun x=>f x cs) h; subst e; exact ⟨l,cs,rfl,h2⟩
theorem zmY:∀ {ls:List Lf} {cs:List D} {f:LfT ls→Option R} {r:R},zdV ls cs f=some r→∃ x,cs=zhq ls x∧f x=some r
 | [],[],f,r,h=>⟨(),rfl,h⟩
 | [],_::_,f,r,h=>by cases h
 | l::ls,cs,f,r,h=>by
  obtain ⟨x,rest,e,h⟩:=Lf.get_some h;obtain ⟨y,e2,h⟩:=zmY h
  exact ⟨(x,y),by rw [e,e2]; rfl,h⟩
theorem zev {ls:List Lf} {cs:List D} {f:LfT ls→Option R} {r:R} (h:zaz ls cs f=some r):∃ x,cs=zhq ls x∧f x=some r:=zmY h
theorem Sh.get_some {s:Sh} {d:D} {f:s.T→Option R} {r:R} (h:s.get d f=some r):∃ x,d=s.mk x∧f x=some r:=by
 cases s with
 | cell l=>exact Lf.getOne_some h
 | agg ls=>
  obtain ⟨cs,e,h⟩:=ziT h;obtain ⟨x,e2,h⟩:=zev h
  exact ⟨x,by rw [e,e2]; rfl,h⟩
 | at1 l=>
  obtain ⟨y,e,h⟩:=zw8 h;obtain ⟨x,e2,h⟩:=Lf.getOne_some h
  exact ⟨x,by rw [e,e2]; rfl,h⟩
 | atA ls=>
  obtain ⟨y,e,h⟩:=zw8 h;obtain ⟨cs,e1,h⟩:=ziT h;obtain ⟨x,e2,h⟩:=zev h
  exact ⟨x,by rw [e,e1,e2]; rfl,h⟩
 | fn1 g l=>
  obtain ⟨y,e,h⟩:=zAR h;obtain ⟨x,e2,h⟩:=Lf.getOne_some h
  exact ⟨x,by rw [e,e2]; rfl,h⟩
theorem zeb {P:Program} {t:TypeId} {d:D} {f:D→Option R} {r:R} (h:decT P t d f=some r):f d=some r:=by
 unfold decT at h;split at h
 ·obtain ⟨es,e,h⟩:=zhr h;rw [e]; exact h
 split at h
 ·obtain ⟨x,e,h⟩:=Sh.get_some h;rw [e]; exact h
 ·cases h
theorem zB7 {P:Program} {own:Bool} {hint:Option Sh} {t:TypeId} {d:D} {f:D→Option R} {r:R} (h:decP P own hint t d f=some r):f d=some r:=by
 unfold decP at h;split at h
 ·obtain ⟨l,e,h⟩:=zmf h;rw [e]; exact h
 split at h
 ·obtain ⟨x,e,h⟩:=Sh.get_some h;rw [e]; exact h
 split at h
 ·obtain ⟨i,e,h⟩:=zop h;rw [e]; exact h
 split at h
 ·obtain ⟨es,e,h⟩:=zpw h;rw [e]; exact h
 split at h
 ·obtain ⟨l,e,h⟩:=zno h;rw [e]; exact h
 ·obtain ⟨x,e,h⟩:=Sh.get_some h;rw [e]; exact h
 ·cases h
theorem zpy {P:Program} {pms:List (PM×Nat)} {hs:zvw}:∀ {i:Nat} {ts:List TypeId} {ds:List D} {f:List D→Option R} {r:R},zAQ P pms hs i ts ds f=some r→f ds=some r
 | i,[],[],f,r,h=>h
 | i,[],d::ds,f,r,h=>by
  unfold zAQ at h;split at h
  ·rename_i sh e;obtain ⟨x,e,h'⟩:=Sh.get_some h;rw [e]
   exact zpy (f:=fun xs=>f (sh.mk x::xs)) h'
  ·cases h
 | _,_::_,[],f,r,h=>by cases h
 | i,t::ts,d::ds,f,r,h=>zpy (f:=fun xs=>f (d::xs)) (zB7 (f:=fun x=>zAQ P pms hs (i+1) ts ds fun xs=>f (x::xs)) h)
end
end Wf

namespace Wf
open Go Go.RowKit
def cut {α:Type} (off len:Nat) (els:List α):List α:=if off=0 then (if len=els.length then els else els.take len) else (els.drop off).take len
def cutI {α:Type} (lo hi:Int) (l:List α):List α:=(l.drop lo.toNat).take (hi - lo).toNat
theorem zzO {α:Type} (off len:Nat) (els:List α):cut off len els=(els.drop off).take len:=by
 unfold cut;split
 ·rename_i h; subst h;split
  ·rename_i h; subst h; simp
  ·simp
 ·rfl
def zyn (sz:Nat) (l:List D):Bool:=l.all fun d=>(d.cell || d.isAgg) && decide (d.width=sz)
def spl (off n:Nat) (ds xs:List D):List D:=if off=0∧n=ds.length then xs else ds.take off++xs++ds.drop (off+n)
theorem zFs {off n:Nat} {ds xs:List D} (h:xs.length=n):spl off n ds xs=ds.take off++xs++ds.drop (off+n):=by
 unfold spl;split
 ·rename_i e; obtain ⟨rfl,rfl⟩:=e; simp
 ·rfl
def zk4 (n:Int) (z:D) (es:List (Int×D)):D:=(zhh n es).getD z
def hasD (n:Int) (es:List (Int×D)):Bool:=(zhh n es).isSome
def zgm (sz:Nat) (l:List D):Bool:=l.all fun d=>d.width == sz
def zil (l:List D):Bool:=l.all D.flat
def zdC (l:List D):Bool:=l.all D.flatEl
def cells (l:List D):Bool:=l.all D.cell
def zGe (l:List D):Bool:=l.all zt1
def allE (es:List (Int×D)):Bool:=es.all fun p=>p.2.flatEl
def zhs:D→Bool
 | .tup _=>false
 | .sl .own _=>false
 | _=>true
section
variable {R:Type}
def dfl (out:Option Out) (k:Out→Option R):Option R:=match out with
 | some out=>k out
 | none=>none
def dflV (v:Option V) (k:V→Option R):Option R:=match v with
 | some v=>k v
 | none=>none
def zw9 (ag:Bool) (size off:Nat) (cs:List D) (k:D→Option R):Option R:=
 if ag then sif (off+size≤cs.length) (k (.agg ((cs.drop off).take size))) else getK cs off k
def rowK (L:Loc) (q n i o:Nat) (k:List D→Option R):Option R:=match zms L q n with
 | some T=>getK T i fun cs=>getK cs o fun x=>zbe x k
 | none=>none
def zr7 (L:Loc) (kk:MK) (q n i o:Nat) (k:List (Int×D)→Option R):Option R:=match zms L q n with
 | some T=>getK T i fun cs=>getK cs o fun x=>ziS kk x k
 | none=>none
def elsK (L:Loc) (v:V) (k:List D→Option R):Option R:=match v with
 | .d (.sl _ l)=>k l
 | .ref g n off len=>match L.get g n with
  | .arr _ els _=>sif (off+len≤els.length) (k (cut off len els))
  | _=>none
 | .bref g n off len=>match L.get g n with
  | .box _ ds=>sif (off+len≤ds.length) (k (cut off len ds))
  | _=>none
 | .vref q n i o lo len=>rowK L q n i o fun l=>sif (lo+len≤l.length) (k (cut lo len l))
 | _=>none
def lenK (L:Loc) (v:V) (k:Nat→Option R):Option R:=match v with
 | .d (.sl _ l)=>k l.length
 | .ref g n off len=>match L.get g n with
  | .arr _ els _=>sif (off+len≤els.length) (k len)
  | _=>none
 | .bref g n off len=>match L.get g n with
  | .box _ ds=>sif (off+len≤ds.length) (k len)
  | _=>none
 | .vref q n i o lo len=>rowK L q n i o fun l=>sif (lo+len≤l.length) (k len)
 | _=>none
def esK (L:Loc) (kk:MK) (v:V) (k:List (Int×D)→Option R):Option R:=match v with
 | .d (.mp _ kk' es)=>if kk'=kk then k es else none
 | .map g n=>match L.get g n with
  | .map kk' es=>if kk'=kk then k es else none
  | _=>none
 | .vmap q n i o=>zr7 L kk q n i o k
 | _=>none
def zr8 (L:Loc) (v:V) (x:Option R):Option R:=match v with
 | .ref g n off len=>match L.get g n with
  | .arr _ els _=>sif (off+len≤els.length) x
  | .trow _ _=>x
  | _=>none
 | .bref g n off len=>lenK L (.bref g n off len) fun _=>x
 | .vref q n i o lo len=>lenK L (.vref q n i o lo len) fun _=>x
 | .vmap q n i o=>match zms L q n with
  | some T=>getK T i fun cs=>getK cs o fun d=>sif ((match d with | .mp .own _ _=>true | _=>false)=true) x
  | none=>none
 | v=>if zes L v=true then x else none
def zyo (L:Loc):List V→Option R→Option R
 | [],x=>x
 | v::r,x=>zr8 L v (zyo L r x)
def zun (L:Loc) (v:V) (x:Option R):Option R:=match v with
 | .ept g n i _=>match L.get g n with
  | .arr _ els _=>sif (i < els.length) x
  | _=>none
 | .vept q n i o j _=>rowK L q n i o fun els=>sif (j < els.length) x
 | v=>if zng L v=true then x else none
def zyp (L:Loc) (v:V) (k:D→Wr→Option R):Option R:=match v with
 | .d x=>k x []
 | .p _ x=>k x []
 | .ref g n off len=>match L.get g n with
  | .arr sz els _=>if g < 90000 then sif (off+len≤els.length) (k (.sl .fresh (cut off len els)) [(g,(n,.arr sz els false))]) else none
  | _=>none
 | _=>none
def zB8 (L:Loc):List V→(List D→Wr→Option R)→Option R
 | [],k=>k [] []
 | v::r,k=>zyp L v fun x w=>zB8 L r fun xs ws=>k (x::xs) (w++ws)
def zGf (L:Loc) (v:V) (k:D→Wr→Option R):Option R:=match v with
 | .ptr g n off=>match off,L.get g n with
  | 0,.box true ds=>k (.at_ (.agg ds)) [(g,(n,.fbox true ds))]
  | 0,.box false [x]=>k (.at_ x) [(g,(n,.fbox false [x]))]
  | 0,.fbox true ds=>k (.at_ (.agg ds)) []
  | 0,.fbox false [x]=>k (.at_ x) []
  | 0,.vbox false [_] [0] [v]=>zyp L v fun x w=>k (.at_ x) (w++[(g,(n,.fbox false [x]))])
  | _,_=>none
 | v=>zyp L v k
def zzP (L:Loc):List V→(List D→Wr→Option R)→Option R
 | [],k=>k [] []
 | v::r,k=>zGf L v fun x w=>zzP L r fun xs ws=>k (x::xs) (w++ws)
def toDK (L:Loc) (v:V) (k:D→Wr→Option R):Option R:=match v with
 | .agg ds ks vs=>sif (okOv ds.length ks vs=true) (zB8 L vs fun xs w=>k (.agg (setL ds ks xs)) w)
 | .clo f a b=>zzP L a fun xs w=>zzP L b fun ys w'=>k (.fn f xs ys) (w++w')
 | v=>zyp L v k
def zGg (L:Loc):List V→(List D→Wr→Option R)→Option R
 | [],k=>k [] []
 | v::r,k=>toDK L v fun x w=>zGg L r fun xs ws=>k (x::xs) (w++ws)
def zvy (z:Nat) (L:Loc) (v:V) (k:D→Wr→Option R):Option R:=match v with
 | .d (.sl .nil [])=>k (.sl .own []) []
 | .d (.sl .full [])=>k (.sl .own []) []
 | .d x=>sif (x.flat=true) (k x [])
 | .p _ x=>sif (x.flat=true) (k x [])
 | .ref g n off len=>match off,L.get g n with
  | 0,.arr sz els true=>if sz=z then sif (len=els.length) (sif (zdC els=true) (sif (zgm sz els=true) (k (.sl .own els) [(g,(n,.dead))]))) else none
  | 0,.trow sz els=>if sz=z then sif (len=els.length) (sif (zdC els=true) (sif (zgm sz els=true) (k (.sl .own els) [(g,(n,.dead))]))) else none
  | _,_=>none
 | .map g n=>match L.get g n with
  | .map kk es=>sif (allE es=true) (k (.mp .own kk es) [(g,(n,.dead))])
  | _=>none
 | _=>none
def zri (L:Loc):List Nat→List V→(List D→Wr→Option R)→Option R
 | z::zs,v::r,k=>zvy z L v fun x w=>zri L zs r fun xs ws=>k (x::xs) (w++ws)
 | [],[],k=>k [] []
 | _,_,_=>none
def zuo (nw:List Nat) (L:Loc) (v:V) (k:D→Option R):Option R:=match v with
 | .d x=>k x
 | .p _ x=>k x
 | .ref g n off len=>elsK L (.ref g n off len) fun l=>k (.sl .lent l)
 | .bref g n off len=>elsK L (.bref g n off len) fun l=>k (.sl .lent l)
 | .vref q n i o lo len=>if q∈nw then none else elsK L (.vref q n i o lo len) fun l=>k (.sl .lent l)
 | .map g n=>match L.get g n with
  | .map kk es=>k (.mp .lent kk es)
  | _=>none
 | _=>none
def zyq (nw:List Nat) (L:Loc):List V→(List D→Option R)→Option R
 | [],k=>k []
 | v::r,k=>zuo nw L v fun x=>zyq nw L r fun xs=>k (x::xs)
def zzQ (nw:List Nat) (L:Loc) (v:V) (k:D→Option R):Option R:=match v with
 | .ptr g n off=>match off,L.get g n with
  | 0,.box true ds=>k (.at_ (.agg ds))
  | 0,.fbox true ds=>k (.at_ (.agg ds))
  | 0,.box false [x]=>k (.at_ x)
  | 0,.fbox false [x]=>k (.at_ x)
  | 0,.vbox false [_] [0] [v]=>zuo nw L v fun d=>k (.at_ d)
  | _,_=>none
 | v=>zuo nw L v k
def zr9 (nw:List Nat) (L:Loc):List V→(List D→Option R)→Option R
 | [],k=>k []
 | v::r,k=>zzQ nw L v fun x=>zr9 nw L r fun xs=>k (x::xs)
def zD6 (nw:List Nat) (L:Loc) (v:V) (k:D→Option R):Option R:=match v with
 | .clo f a b=>zr9 nw L a fun a'=>zr9 nw L b fun b'=>k (.fn f a' b')
 | .agg ds ks vs=>sif (okOv ds.length ks vs=true) (zyq nw L vs fun xs=>k (.agg (setL ds ks xs)))
 | v=>zzQ nw L v k
def zB9 (nw:List Nat) (L:Loc):List V→(List D→Option R)→Option R
 | [],k=>k []
 | v::r,k=>zD6 nw L v fun x=>zB9 nw L r fun xs=>k (x::xs)
def zHM (P:Program) (t:TypeId):Nat:=match P.underlying t with
 | some (.slice _)=>1
 | some (.map _ _)=>2
 | _=>0
def zCa (P:Program) (L:Loc) (t:TypeId) (q i off n:Nat) (ag fl:Bool) (k:V→Option R):Option R:=
 match za9 L q with
 | some (_,T)=>getK T i fun cs=>
  if ag then sif (off+n≤cs.length) (if fl then sif (zil ((cs.drop off).take n)=true) (decT P t (.agg ((cs.drop off).take n)) fun d=>k (.d d)) else k (.d (.agg (((cs.drop off).take n).map D.hide))))
  else getK cs off fun x=>match zHM P t with
   | 1=>zbe x fun l=>k (.vref q (L (tb q)).1 i off 0 l.length)
   | 2=>match zmt P t with
    | some (kk,_)=>ziS kk x fun _=>k (.vmap q (L (tb q)).1 i off)
    | none=>none
   | _=>decT P t x fun d=>sif (d.flat=true) (k (.d d))
 | none=>none
def zyr (P:Program) (t:TypeId) (ag:Bool) (n off:Nat) (ds:List D) (ks:List Nat) (vs:List V) (k:V→Option R):Option R:=
 if ag then sif (off+n≤ds.length) (k (V.mk ((ds.drop off).take n) (ovIn off n ks vs)))
 else sif (off < ds.length) (match zdg ks vs off with
  | some v=>k v
  | none=>getK ds off fun d=>decT P t d fun d=>k (.d d))
def eltK (P:Program) (t:TypeId) (ag:Bool) (sz n off:Nat) (x:D) (k:V→Option R):Option R:=
 if off=0∧sz=n then decT P t x fun d=>sif (d.isAgg=ag) (sif (d.width=n) (sif (d.cell= !ag) (k (.d d))))
 else asAgg x fun cs=>zw9 ag n off cs fun x=>decT P t x fun d=>k (.d d)
def zD7 (P:Program) (L:Loc) (t:TypeId) (p:V) (k:V→Option R):Option R:=
 match zkT P t,zcp P t with
 | some ag,some n=>
  match p with
  | .d (.at_ x)=>decT P t x fun d=>sif (d.isAgg=ag) (sif (d.width=n) (sif (d.cell= !ag) (k (.d d))))
  | .d (.h q i off)=>zCa P L t q i off n ag (ztY P 8 t) k
  | .ptr g l off=>match L.get g l with
   | .box _ ds=>zw9 ag n off ds fun x=>decT P t x fun d=>k (.d d)
   | .fbox _ ds=>zw9 ag n off ds fun x=>decT P t x fun d=>k (.d d)
   | .vbox _ ds ks vs=>zyr P t ag n off ds ks vs k
   | _=>none
  | .ept g l i off=>match L.get g l with
   | .arr sz els _=>getK els i fun x=>eltK P t ag sz n off x k
   | _=>none
  | .vept q l i o j off=>rowK L q l i o fun els=>getK els j fun x=>eltK P t ag (zcS q o) n off x k
  | _=>none
 | _,_=>none
def zsa (ag:Bool) (n sz off:Nat) (e v:D) (k:D→Option R):Option R:=match v with
 | .agg xs=>sif (ag=true) (sif (xs.length=n) (sif (off=0) (sif (n=sz) (k (.agg xs)))))
 | x=>sif (ag=false) (sif (n=1) (sif (x.cell=true) (if sz=1 then sif (e.isAgg=false) (sif (off=0) (k x)) else asAgg e fun cs=>sif (off < cs.length) (k (.agg (cs.set off x))))))
def zys (P:Program) (L:Loc) (q i off n:Nat) (ag fl:Bool) (v:V) (k:Out→Option R):Option R:=
 match za9 L q with
 | some (true,T)=>getK T i fun cs=>sif (off+n≤cs.length)
  (if fl then (match v with
   | .d (.agg xs)=>sif (ag=true) (sif (xs.length=n) (sif (zil xs=true) (sif (zil ((cs.drop off).take n)=true) (letT (za8 T i off xs) fun T'=>
     k { v:=.d (.tup []),wr:=[(tb q,((L (tb q)).1,.tbl true T'))] }))))
   | .d x=>sif (ag=false) (sif (n=1) (sif (x.flat=true) (sif (zil ((cs.drop off).take n)=true) (letT (za8 T i off [x]) fun T'=>
     k { v:=.d (.tup []),wr:=[(tb q,((L (tb q)).1,.tbl true T'))] }))))
   | _=>none)
  else if ag then (match v with
   | .d (.agg ds)=>sif (ds.length=n) (sif (ds.all D.own0ok=true) (letT (za8 T i off (ds.map D.own0)) fun T'=>k { v:=.d (.tup []),wr:=[(tb q,(L.new (tb q),.tbl true T'))] }))
   | .agg ds ks vs=>zri L (ks.map fun z=>zcS q (off+z)) vs fun xs w=>sif (ds.length=n) (sif (zBt ks ds=true) (sif ((w.map (·.1)).Nodup) (sif (okOv ds.length ks vs=true) (letT (za8 T i off (setL (ds.map D.own0) ks xs)) fun T'=>
     k { v:=.d (.tup []),wr:=w++[(tb q,(L.new (tb q),.tbl true T'))] }))))
   | _=>none)
  else zvy (zcS q off) L v fun x w=>if n=1 then letT (za8 T i off [x]) fun T'=>k { v:=.d (.tup []),wr:=w++[(tb q,(L.new (tb q),.tbl true T'))] } else none)
 | _=>none
def zCb (P:Program) (L:Loc) (t:TypeId) (p v:V) (k:Out→Option R):Option R:=
 match zkT P t,zcp P t with
 | some ag,some n=>
  match p with
  | .ptr g l off=>match L.get g l with
   | .box a ds=>match v with
    | .d (.agg xs)=>sif (ag=true) (sif (xs.length=n) (sif (off+n≤ds.length) (k { v:=.d (.tup []),wr:=[(g,(l,.box a (spl off n ds xs)))] })))
    | .agg xs ks vs=>sif (ag=true) (sif (xs.length=n) (sif (off+n≤ds.length) (sif (okOv n ks vs=true) (k { v:=.d (.tup []),wr:=[(g,(l,zrD a (ds.take off++xs++ds.drop (off+n)) (ks.map (· +off),vs)))] }))))
    | .d x=>sif (ag=false) (sif (n=1) (sif (x.cell=true) (sif (off < ds.length) (k { v:=.d (.tup []),wr:=[(g,(l,.box a (ds.set off x)))] }))))
    | v=>sif (v.one=true) (sif (ag=false) (sif (n=1) (sif (off < ds.length) (k { v:=.d (.tup []),wr:=[(g,(l,.vbox a ds [off] [v]))] }))))
   | .vbox a ds ks vs=>match v with
    | .d (.agg xs)=>sif (ag=true) (sif (xs.length=n) (sif (off+n≤ds.length) (k { v:=.d (.tup []),wr:=[(g,(l,zrD a (ds.take off++xs++ds.drop (off+n)) (zdI off n ks vs)))] })))
    | .agg xs ks' vs'=>sif (ag=true) (sif (xs.length=n) (sif (off+n≤ds.length) (sif (okOv n ks' vs'=true) (k { v:=.d (.tup []),wr:=[(g,(l,zrD a (ds.take off++xs++ds.drop (off+n)) (ks'.map (· +off)++(zdI off n ks vs).1,vs'++(zdI off n ks vs).2)))] }))))
    | .d x=>sif (ag=false) (sif (n=1) (sif (x.cell=true) (sif (off < ds.length) (k { v:=.d (.tup []),wr:=[(g,(l,zrD a (ds.set off x) (zdI off 1 ks vs)))] }))))
    | v=>sif (v.one=true) (sif (ag=false) (sif (n=1) (sif (off < ds.length) (k { v:=.d (.tup []),wr:=[(g,(l,.vbox a ds (off::(zdI off 1 ks vs).1) (v::(zdI off 1 ks vs).2)))] }))))
   | _=>none
  | .ept g l i off=>match L.get g l with
   | .arr sz els true=>getK els i fun e=>match v with
    | .d x=>zsa ag n sz off e x fun y=>k { v:=.d (.tup []),wr:=[(g,(l,.arr sz (els.set i y) true))] }
    | v=>toDK L v fun x w=>if g∈w.map (·.1) then none else zsa ag n sz off e x fun y=>k { v:=.d (.tup []),wr:=w++[(g,(l,.arr sz (els.set i y) true))] }
   | _=>none
  | .vept q l i o j off=>match v,za9 L q with
   | .d x,some (true,T)=>rowK L q l i o fun els=>getK els j fun e=>zsa ag n (zcS q o) off e x fun y=>sif (y.flatEl=true) (letT (setT T i o (.sl .own (els.set j y))) fun T'=>
     k { v:=.d (.tup []),wr:=[(tb q,(l,.tbl true T'))] })
   | _,_=>none
  | .d (.h q i off)=>zys P L q i off n ag (ztY P 8 t) v k
  | _=>none
 | _,_=>none
def zyt (P:Program) (L:Loc) (t:Nat) (ty:TypeId) (s x:V) (k:Out→Option R):Option R:=
 elsK L x fun xs=>match zdd P ty 0 with
  | none=>none
  | some sz=>match s with
   | .d (.sl .full [])=>sif (xs.length≤2 ^ 32) (sif (zeC sz xs=true) (k { v:=.ref t (L.new t) 0 xs.length,wr:=[(t,(L.new t,.arr sz xs true))] }))
   | .d (.sl .nil [])=>sif (xs.length≤2 ^ 32) (sif (zeC sz xs=true) (k { v:=.ref t (L.new t) 0 xs.length,wr:=[(t,(L.new t,.arr sz xs true))] }))
   | .d (.sl .full (y::l))=>sif (xs≠[]) (sif ((y::l).length+xs.length≤2 ^ 32) (sif (zeC sz xs=true) (sif (zeC sz (y::l)=true)
     (k { v:=.ref t (L.new t) 0 ((y::l).length+xs.length),wr:=[(t,(L.new t,.arr sz (y::l++xs) true))] }))))
   | .ref g n off len=>match off,L.get g n with
    | 0,.arr sz' els true=>if g < 90000 then sif (len+xs.length≤2 ^ 32) (sif (zeC sz xs=true) (sif (len=els.length) (sif (sz'=sz)
      (k { v:=.ref t (L.new t) 0 (len+xs.length),wr:=[(g,(n,.dead)),(t,(L.new t,.arr sz (els++xs) true))] })))) else none
    | _,_=>none
   | .vref q n i o lo len=>match lo,za9 L q with
    | 0,some (true,T)=>rowK L q n i o fun els=>sif (len+xs.length≤2 ^ 32) (sif (zeC sz xs=true) (sif (sz=zcS q o) (sif (len=els.length) (letT (setT T i o .undef) fun T'=>
      k { v:=.ref t (L.new t) 0 (len+xs.length),wr:=[(tb q,(n,.tbl true T')),(t,(L.new t,.trow sz (els++xs)))] }))))
    | _,_=>none
   | _=>none
def srcK (P:Program) (L:Loc) (ty2:TypeId) (x:V) (k:List D→Option R):Option R:=
 match zne P ty2,x with
 | true,.d (.str s)=>k (zt0 s)
 | true,_=>none
 | false,x=>elsK L x k
def zGh (P:Program) (L:Loc) (ty ty2:TypeId) (s x:V) (k:Out→Option R):Option R:=
 match s,zcz P ty with
 | .ref g n off len,some ez=>match L.get g n with
  | .arr sz els true=>srcK P L ty2 x fun xs=>sif (off+len≤els.length) (sif (sz=1) (sif (ez=1) (sif (cells xs=true)
    (k { v:=.d (.int .i64 ((min xs.length len:Nat):Int)),wr:=[(g,(n,.arr sz (els.take off++xs.take len++els.drop (off+(xs.take len).length)) true))] }))))
  | _=>none
 | .bref g n off len,some ez=>match L.get g n with
  | .box a ds=>srcK P L ty2 x fun xs=>sif (off+len≤ds.length) (sif (ez=1) (sif (cells xs=true) (sif (xs.length=len)
    (k { v:=.d (.int .i64 (len:Int)),wr:=[(g,(n,.box a (ds.take off++(xs++ds.drop (off+len)))))] }))))
  | _=>none
 | _,_=>none
def zCc (P:Program) (L:Loc) (t:TypeId) (x:V) (lo hi mx:Option V) (k:V→Option R):Option R:=
 match optD lo,optD hi,optD mx with
 | some lo,some hi,some mx=>
  match x with
  | .d (.sl tg l)=>
   let h:=hi.getD l.length;let a:=lo.getD 0;let m:=mx.getD h
   match zcz P t with
   | some sz=>sif (0≤a) (sif (a≤h) (sif (h≤l.length) (sif (m=h) (sif ((mx.isNone || hi.isSome)=true) (sif (zyn sz l=true)
    (k (.d (.sl (zer tg mx.isSome (decide (h=l.length))) (cutI a h l)))))))))
   | none=>none
  | .d (.str s)=>
   let h:=hi.getD s.size;let a:=lo.getD 0
   sif (zne P t=true) (sif (mx=none) (sif (0≤a) (sif (a≤h) (sif (h≤s.size) (k (.d (.str (s.extract a.toNat h.toNat))))))))
  | .ref g n off len=>
   let h:=hi.getD len;let a:=lo.getD 0
   match zcz P t,L.get g n with
   | some sz,.arr sz' _ _=>if sz=sz' then (match mx with
    | none=>sif (0≤a) (sif (a≤h) (sif (h≤len) (k (.ref g n (off+a.toNat) (h - a).toNat))))
    | some m=>sif (hi.isSome=true) (sif (m=h) (sif (a=h) (sif (0≤a) (sif (h≤len) (k (.d (.sl .full []))))))))
    else none
   | _,_=>none
  | .bref g n off len=>
   let h:=hi.getD len;let a:=lo.getD 0
   match zcz P t,L.get g n,mx with
   | some sz,.box _ ds,some m=>if sz=1 then sif (off+len≤ds.length) (sif (hi.isSome=true) (sif (m=h) (sif (a=h) (sif (0≤a) (sif (h≤len) (k (.d (.sl .full [])))))))) else none
   | _,_,_=>none
  | .vref q n i o off len=>
   let h:=hi.getD len;let a:=lo.getD 0
   match zcz P t with
   | some sz=>if sz=zcS q o then rowK L q n i o fun l=>sif (off+len≤l.length) (match mx with
    | none=>sif (0≤a) (sif (a≤h) (sif (h≤len) (k (.vref q n i o (off+a.toNat) (h - a).toNat))))
    | some m=>sif (hi.isSome=true) (sif (m=h) (sif (a=h) (sif (0≤a) (sif (h≤len) (k (.d (.sl .full []))))))))
    else none
   | none=>none
  | .ptr g n off=>match zhV P t,L.get g n with
   | some (q,sz,_),.box _ ds=>
    let h:=hi.getD q;let a:=lo.getD 0
    sif (off+q≤ds.length) (sif (sz=1) (sif (mx=none) (sif (0≤a) (sif (a≤h) (sif (h≤q) (sif ((a=0∨a < q)) (k (.bref g n (off+a.toNat) (h - a).toNat))))))))
   | _,_=>none
  | _=>none
 | _,_,_=>none
def zGi (P:Program) (t:TypeId):Option TypeId:=
 match P.underlying t with
 | some (.slice e)=>some e
 | _=>none
def zpz (P:Program) (L:Loc) (t:TypeId) (x i:V) (k:V→Option R):Option R:=
 match i with
 | .d (.int _ i)=>
  match x with
  | .d (.sl _ l)=>match zcz P t,zGi P t with
   | some sz,some e=>sif (0≤i) (getK l i.toNat fun d=>decT P e d fun d=>sif (d.width=sz) (sif ((d.cell || d.isAgg)=true) (k (.d (.at_ d)))))
   | _,_=>none
  | .ref g l off n=>match zcz P t,L.get g l with
   | some sz,.arr sz' _ _=>if sz'=sz then sif (0≤i) (sif (i.toNat < n) (k (.ept g l (off+i.toNat) 0))) else none
   | _,_=>none
  | .vref q l z o off n=>match zcz P t with
   | some sz=>if sz=zcS q o then rowK L q l z o fun _=>sif (0≤i) (sif (i.toNat < n) (k (.vept q l z o (off+i.toNat) 0))) else none
   | none=>none
  | .bref g l off n=>match zcz P t with
   | some sz=>sif (sz=1) (sif (0≤i) (sif (i.toNat < n) (k (.ptr g l (off+i.toNat)))))
   | none=>none
  | .ptr g l off=>match zhV P t with
   | some (n,sz,_)=>sif (0≤i) (sif (i.toNat < n) (k (.ptr g l (off+i.toNat*sz))))
   | none=>none
  | .d (.at_ (.agg cs))=>match zhV P t with
   | some (n,sz,ag)=>sif (0≤i) (sif (i.toNat < n) (zw9 ag sz (i.toNat*sz) cs fun d=>k (.d (.at_ d))))
   | none=>none
  | .d (.h q j off)=>match zhV P t with
   | some (n,sz,_)=>sif (0≤i) (sif (i.toNat < n) (k (.d (.h q j (off+i.toNat*sz)))))
   | none=>none
  | .ept g l q off=>match zhV P t with
   | some (n,sz,_)=>sif (0≤i) (sif (i.toNat < n) (k (.ept g l q (off+i.toNat*sz))))
   | none=>none
  | .vept q l z o j off=>match zhV P t with
   | some (n,sz,_)=>sif (0≤i) (sif (i.toNat < n) (k (.vept q l z o j (off+i.toNat*sz))))
   | none=>none
  | _=>none
 | _=>none
def letD (d:D) (k:D→Option R):Option R:=match d with
 | .int q n=>letN n fun n=>k (.int q n)
 | d=>k d
def binK (bt:Bool) (op:BinOp) (a b:D) (k:D→Option R):Option R:=
 match op,a,b with
 | .quo,.int q x,.int q' y | .rem,.int q x,.int q' y=>if q=q' then sif (y≠0) (match op with
   | .quo=>letN (q.wrap (x.tdiv y)) fun n=>k (.int q n)
   | _=>letN (x.tmod y) fun n=>k (.int q n)) else none
 | .shl,.int q x,.int _ y=>sif (0≤y) (letN (q.wrap (x*2 ^ min y.toNat q.bits)) fun n=>k (.int q n))
 | .shr,.int q x,.int _ y=>sif (0≤y) (letN (x.fdiv (2 ^ min y.toNat q.bits)) fun n=>k (.int q n))
 | op,a,b=>match abin bt op a b with
  | some d=>letD d k
  | none=>none
def zD8 (L:Loc) (q:Nat) (a:V) (k:Bool→Option R):Option R:=
 match q,a with
 | 0,.d x=>zpv x k
 | 0,.p _ x=>zpv x k
 | 1,.d x=>zr4 x k
 | 3,.d (.sl t l)=>brK l.isEmpty (if t=.nn then k false else if t=.nul then k true else sif (t=.nil) (k true)) (k false)
 | 3,.ref g n off len=>zr8 L (.ref g n off len) (sif (0 < len) (k false))
 | 3,.vref z n i o lo len=>zr8 L (.vref z n i o lo len) (sif (0 < len) (k false))
 | q,a=>match zqU L q a with
  | some b=>k b
  | none=>none
def zGj (d:D) (k:V→Wr→Option R):Option R:=sif (zhs d=true) (k (.d d) [])
def zvz (P:Program) (L:Loc) (id sz:Nat) (t:TypeId) (d:D) (k:V→Wr→Option R):Option R:=
 if sz=0 then decT P t d fun d=>zGj d k
 else zbe d fun els=>k (.ref id (L.new id) 0 els.length) [(id,(L.new id,.arr sz els true))]
def zvA (P:Program) (L:Loc) (t:Nat):Nat→List Nat→List TypeId→List D→(List V→Wr→Option R)→Option R
 | j,sz::szs,ty::tys,d::ds,k=>zvz P L (t+1000*(j+1)) sz ty d fun v w=>zvA P L t (j+1) szs tys ds fun vs ws=>k (v::vs) (w++ws)
 | _,[],[],[],k=>k [] []
 | _,_,_,_,_=>none
def tupN (n:Nat) (l:List D) (k:List D→Option R):Option R:=zaz (List.replicate n .any) l fun x=>k (zhq _ x)
def zzR (P:Program) (L:Loc) (t:Nat) (szs:List Nat) (ty:TypeId) (r:D) (k:V→Wr→Option R):Option R:=
 match szs with
 | [sz]=>zvz P L t sz ty r k
 | []=>zdP r fun ds=>nilK ds (k (.tup []) [])
 | _=>match P.underlying ty with
  | some (.tuple tys)=>zdP r fun ds=>tupN tys.size ds fun ds=>if szs.length=ds.length∧ds.length≤4 then zvA P L t 0 szs tys.toList ds fun vs w=>k (.tup vs) w else none
  | _=>none
def zCd (nw:List Nat) (L:Loc) (pm:PM×Nat) (v:V) (k:D→List (Nat×Nat×Nat×Nat)→Wr→Option R):Option R:=
 match pm with
 | (.lent,_)=>zD6 nw L v fun d=>k d [] []
 | (.own,sz)=>match v with
  | .ref g n off len=>match off,L.get g n with
   | 0,.arr sz' els true=>if sz'=sz∧g < 90000 then sif (len=els.length) (sif (zdC els=true) (k (.sl .own els) [] [(g,(n,.dead))])) else none
   | _,_=>none
  | .d (.sl .nil [])=>k (.sl .own []) [] []
  | .d (.sl .full [])=>k (.sl .own []) [] []
  | _=>none
 | (.mut,sz)=>match v with
  | .ref g n off len=>match off,L.get g n with
   | 0,.arr sz' els true=>if sz'=sz∧g < 90000 then sif (len=els.length) (sif (zdC els=true) (k (.sl .own els) [(g,n,sz,len)] [])) else none
   | _,_=>none
  | _=>none
def zCe (nw:List Nat) (L:Loc):List (PM×Nat)→List V→(List D→List (Nat×Nat×Nat×Nat)→Wr→Option R)→Option R
 | _,[],k=>k [] [] []
 | pms,v::vs,k=>zCd nw L (pms.headD (.lent,0)) v fun d m w=>zCe nw L pms.tail vs fun ds ms ws=>k (d::ds) (m++ms) (w++ws)
def zGk:List (Nat×Nat×Nat×Nat)→List (List D)→(Wr→Option R)→Option R
 | [],os,k=>nilK os (k [])
 | (g,n,sz,len)::ms,os,k=>zeE os fun els os=>sif (els.length=len) (zGk ms os fun w=>k ((g,(n,.arr sz els true))::w))
def zGl (P:Program) (Γ:Env) (L:Loc) (t:Nat) (ty:TypeId) (f:V) (args:List V) (k:Out→Option R):Option R:=
 match znf f with
 | some (q,a,b)=>match Γ q with
  | some (.pure szs F)=>zB9 [] L (a++args++b) fun ds=>zan (F ds) fun r=>zzR P L t szs ty r fun v w=>k { v:=v,wr:=w }
  | some (.st pms szs ks F)=>zCe (ksW ks) L pms (a++args++b) fun ds ms kl=>match zkb L ks with
   | some Ts=>if zmW L pms [] (a++args++b)=true∧(ks.map (·.1)).Nodup then zan (F ds Ts) fun x=>zGk ms x.outs fun wo=>zD5 (ksW ks).length x.tbs fun tbs=>
     zzR P L t szs ty x.r fun v w=>k { v:=v,wr:=kl++wo++zh0 L (ksW ks) tbs++w } else none
   | none=>none
  | none=>none
 | none=>none
def zCf (P:Program) (s f:Nat) (x:V) (k:V→Option R):Option R:=
 match x,ztr P s f,zju P s f with
 | .d (.agg cs),some (off,size),some ag=>zw9 ag size off cs fun d=>k (.d d)
 | .agg ds ks vs,some (off,size),some ag=>if ag then sif (off+size≤ds.length) (k (V.mk ((ds.drop off).take size) (ovIn off size ks vs)))
   else sif (off < ds.length) (match zdg ks vs off with
    | some v=>k v
    | none=>getK ds off fun d=>k (.d d))
 | _,_,_=>none
def unpK (a v:V) (k:V→Option R):Option R:=match a,v with
 | .vept _ _ _ _ _ _,.p q d=>asH q d fun i=>k (.d (.h q i 0))
 | _,v=>k v.unp
def zGm (P:Program) (Γ:Env) (o:Oper) (ρ:Operand→V) (L:Loc) (k:Out→Option R):Option R:=
 let t:=o.dst.getD 0
 match o.op with
 | .pick c a b=>match ρ c with
  | .d (.bool b')=>br b' fun b'=>k { v:=if b' then ρ a else ρ b }
  | _=>none
 | .build ty ps=>match ((ps.toList.map fun (i,x)=>(i,(ρ x).unp)).map (·.2)).mapM V.dat with
  | some _=>dfl (aop0 P Γ o ρ L) k
  | none=>zyo L ((ps.toList.map fun (i,x)=>(i,(ρ x).unp)).map (·.2)) (match ziI P ty,zu3 P ty with
   | some (.agg zs),some pl=>match layV pl (zs,[],[]) (ps.toList.map fun (i,x)=>(i,(ρ x).unp)) with
    | some x=>k { v:=V.mk x.1 x.2 }
    | none=>none
   | _,_=>none)
 | .buildSlice ty n ps=>zGg L ((ps.toList.map fun (i,x)=>(i,ρ x)).map (·.2)) fun ds w=>match zdd P ty n with
  | some sz=>sif ((ps.toList.map fun (i,x)=>(i,ρ x)).map (·.1)=List.range n) (sif (n*sz≤2 ^ 24) (sif (zeC sz ds=true) (k { v:=.d (.sl .full ds),wr:=w })))
  | none=>none
 | .box _ x=>match (ρ x).unp with
  | .d _=>dfl (aop0 P Γ o ρ L) k
  | .agg _ _ _=>dfl (aop0 P Γ o ρ L) k
  | v=>if v.one=true then zr8 L v (k { v:=.ptr t (L.new t) 0,wr:=[(t,(L.new t,.vbox false [.undef] [0] [v]))] }) else none
 | .load ty a=>zD7 P L ty (ρ a) fun v=>k { v }
 | .store ty a x=>zr8 L (ρ x) (unpK (ρ a) (ρ x) fun v=>zCb P L ty (ρ a) v k)
 | .binOp op ty x y _=>match ρ x,ρ y with
  | .d (.agg _),.d (.agg _)=>dfl (aop0 P Γ o ρ L) k
  | a,b=>match znh P ty with
   | some q=>if zob q b=true then (match op with
    | .eql=>zD8 L q a fun r=>k { v:=.d (.bool r) }
    | .neq=>zD8 L q a fun r=>k { v:=.d (.bool !r) }
    | _=>none) else none
   | none=>match a,b with
    | .d a,.d b=>binK (zrC P ty) op a b fun d=>k { v:=.d d }
    | _,_=>none
 | .convert src dst x=>match ρ x with
  | .d (.int _ n)=>match zws P src,zws P dst with
   | some _,some q=>letN (q.wrap n) fun n=>k { v:=.d (.int q n) }
   | _,_=>none
  | v=>if zu5 P src=true∧zne P dst=true then elsK L v fun l=>sif (zGe l=true) (k { v:=.d (.str (baOf l)) }) else none
 | .makeSlice ty n c=>match P.underlying ty,ρ n,ρ c with
  | some (.slice e),.d (.int .i64 n),.d (.int .i64 c)=>match ziI P e,zcp P e,P.info? e with
   | some z,some sz,some i=>sif (0≤n) (sif (n=c) (sif (n*i.bytes≤2 ^ 47) (sif (n≤2 ^ 47) (sif (z.width=sz) (sif (0 < sz)
     (k { v:=.ref t (L.new t) 0 n.toNat,wr:=[(t,(L.new t,.arr sz (List.replicate n.toNat z) true))] }))))))
   | _,_,_=>none
  | _,_,_=>none
 | .slice ty x lo hi mx=>zCc P L ty (ρ x) (lo.map ρ) (hi.map ρ) (mx.map ρ) fun v=>k { v }
 | .fieldAddr s x f=>zun L (ρ x) (dflV (zl6 P s (ρ x) f) fun v=>k { v })
 | .field s x f=>zCf P s f (ρ x) fun v=>k { v }
 | .indexAddr ty x i=>zun L (ρ x) (zpz P L ty (ρ x) (ρ i) fun v=>k { v })
 | .index ty x i=>match ρ x,ρ i with
  | .d (.agg cs),.d (.int _ n)=>match zhV P ty with
   | some (q,sz,ag)=>sif (0≤n) (sif (n < q) (zw9 ag sz (n.toNat*sz) cs fun d=>k { v:=.d d }))
   | none=>none
  | _,_=>none
 | .lookup ty m x ok=>match zmt P ty with
  | some (kk,et)=>match ziI P et,zww kk (ρ x) with
   | some z,some n=>esK L kk (ρ m) fun es=>decT P et (zk4 n z es) fun d=>k { v:=if ok then .d (.tup [d,.bool (hasD n es)]) else .d d }
   | _,_=>none
  | none=>none
 | .mapUpdate ty m kx v | .insert ty m kx v=>match zmt P ty with
  | some (kk,_)=>match ρ m,zww kk (ρ kx) with
   | .map g l,some n=>match L.get g l with
    | .map kk' es=>if kk'=kk then toDK L (ρ v).unp fun x w=>if g∈w.map (·.1) then none else k { v:=.d (.tup []),wr:=w++[(g,(l,.map kk (setD n x es)))] } else none
    | _=>none
   | .vmap q l i o,some n=>match (ρ v).unp,za9 L q with
    | .d x,some (true,T)=>zr7 L kk q l i o fun es=>sif (x.flatEl=true) (letT (setT T i o (.mp .own kk (setD n x es))) fun T'=>k { v:=.d (.tup []),wr:=[(tb q,(l,.tbl true T'))] })
    | _,_=>none
   | _,_=>none
  | none=>none
 | .nilCheck x=>match ρ x with
  | .p q x=>asH q x fun i=>k { v:=.d (.h q i 0) }
  | .ept g n i j=>zun L (.ept g n i j) (k { v:=.ept g n i j })
  | .vept z n i o j f=>zun L (.vept z n i o j f) (k { v:=.vept z n i o j f })
  | _=>dfl (aop0 P Γ o ρ L) k
 | .call { callee:=.builtin .len,args,argTypes }=>match args.toList,argTypes.toList with
  | [x],[ty]=>match zmt P ty with
   | some (kk,_)=>esK L kk (ρ x) fun es=>k { v:=.d (.int .i64 es.length) }
   | none=>match ρ x with
    | .d (.str s)=>if zne P ty=true then k { v:=.d (.int .i64 s.size) } else none
    | v=>if (zcz P ty).isSome=true then lenK L v fun n=>k { v:=.d (.int .i64 n) } else none
  | _,_=>none
 | .call { callee:=.builtin .min,args,.. }=>match args.toList.map ρ with
  | [.d (.int .i64 a),.d (.int .i64 b)]=>letN (min a b) fun n=>k { v:=.d (.int .i64 n) }
  | _=>none
 | .call { callee:=.builtin .max,args,.. }=>match args.toList.map ρ with
  | [.d (.int .i64 a),.d (.int .i64 b)]=>letN (max a b) fun n=>k { v:=.d (.int .i64 n) }
  | _=>none
 | .call { callee:=.builtin .append,args,argTypes }=>match args.toList,argTypes.toList with
  | [s,x],[ty,ty2]=>if (zcz P ty2).isSome then zyt P L t ty (ρ s) (ρ x) k else none
  | _,_=>none
 | .call { callee:=.builtin .copy,args,argTypes }=>match args.toList,argTypes.toList with
  | [s,x],[ty,ty2]=>zGh P L ty ty2 (ρ s) (ρ x) k
  | _,_=>none
 | .call { callee:=.value f,args,.. }=>zGl P Γ L t o.type (ρ f) (args.toList.map ρ) k
 | .sliceToArrayPointer arr x=>match ρ x with
  | .d (.sl _ l)=>match P.underlying arr with
   | some (.array n e)=>sif (0 < n) (sif (l.length=n) (sif (zcp P e=some 1) (sif (cells l=true) (k { v:=.d (.at_ (.agg l)) }))))
   | _=>none
  | _=>none
 | _=>dfl (aop0 P Γ o ρ L) k
def aopK (P:Program) (Γ:Env) (o:Oper) (ρ:Operand→V) (L:Loc) (k:Out→Option R):Option R:=zGm P Γ o ρ L fun out=>k { out with v:=toP P o.type out.v }
end
end Wf

namespace Wf
open Go Go.RowKit
set_option linter.unusedVariables false
set_option linter.unusedSimpArgs false
section
variable {R:Type} {r:R}
theorem zmg {o:Option Out} {k:Out→Option R} (h:dfl o k=some r):∃ out,o=some out∧k out=some r:=by
 unfold dfl at h;split at h
 ·exact ⟨_,rfl,h⟩
 ·cases h
theorem zCg {o:Option V} {k:V→Option R} (h:dflV o k=some r):∃ v,o=some v∧k v=some r:=by
 unfold dflV at h;split at h
 ·exact ⟨_,rfl,h⟩
 ·cases h
theorem zhc {ag:Bool} {size off:Nat} {cs:List D} {k:D→Option R} (h:zw9 ag size off cs k=some r):∃ d,zhg ag size off cs=some d∧k d=some r:=by
 unfold zw9 at h;unfold zhg;split at h
 ·rename_i e; subst e;obtain ⟨h1,h2⟩:=zaP h
  exact ⟨_,by simp [h1],h2⟩
 ·rename_i e;obtain ⟨d,h1,h2⟩:=zcM h;simp only [Bool.not_eq_true] at e; subst e
  exact ⟨d,by simpa using h1,h2⟩
theorem zgn {L:Loc} {q n i o:Nat} {k:List D→Option R} (h:rowK L q n i o k=some r):∃ l,zeq L q n i o=some l∧k l=some r:=by
 unfold rowK at h;split at h
 ·rename_i T e;obtain ⟨cs,h1,h2⟩:=zcM h;obtain ⟨x,h3,h4⟩:=zcM h2;obtain ⟨l,h5,h6⟩:=zmf h4;subst h5
  exact ⟨l,by simp [zeq,e,zc5,h1,h3],h6⟩
 ·cases h
theorem zqw {L:Loc} {kk:MK} {q n i o:Nat} {k:List (Int×D)→Option R} (h:zr7 L kk q n i o k=some r):∃ es,ziJ L q n i o=some (kk,es)∧k es=some r:=by
 unfold zr7 at h;split at h
 ·rename_i T e;obtain ⟨cs,h1,h2⟩:=zcM h;obtain ⟨x,h3,h4⟩:=zcM h2;obtain ⟨l,h5,h6⟩:=zhr h4;subst h5
  exact ⟨l,by simp [ziJ,e,zc5,h1,h3],h6⟩
 ·cases h
theorem ziU {L:Loc} {v:V} {k:List D→Option R} (h:elsK L v k=some r):∃ l,zdt L v=some l∧k l=some r:=by
 cases v with
 | d x=>cases x<;>first | cases h | exact ⟨_,rfl,h⟩
 | ref g n off len=>
  simp only [elsK] at h;simp only [zdt];split at h
  ·rename_i e; rw [e];obtain ⟨h1,h2⟩:=zaP h
   exact ⟨_,by simp [h1,zzO],h2⟩
  ·cases h
 | bref g n off len=>
  simp only [elsK] at h;simp only [zdt];split at h
  ·rename_i e; rw [e];obtain ⟨h1,h2⟩:=zaP h
   exact ⟨_,by simp [h1,zzO],h2⟩
  ·cases h
 | vref q n i o lo len=>
  obtain ⟨l,h1,h2⟩:=zgn (k:=fun l=>sif (lo+len≤l.length) (k (cut lo len l))) h
  obtain ⟨h3,h4⟩:=zaP h2
  exact ⟨_,by simp [zdt,h1,h3,zzO],h4⟩
 | _=>cases h
theorem zsb {L:Loc} {v:V} {k:Nat→Option R} (h:lenK L v k=some r):∃ n,(zdt L v).map List.length=some n∧k n=some r:=by
 cases v with
 | d x=>cases x<;>first | cases h | exact ⟨_,rfl,h⟩
 | ref g n off len=>
  simp only [lenK] at h;simp only [zdt];split at h
  ·rename_i e; rw [e];obtain ⟨h1,h2⟩:=zaP h
   exact ⟨len,by simp [h1]; omega,h2⟩
  ·cases h
 | bref g n off len=>
  simp only [lenK] at h;simp only [zdt];split at h
  ·rename_i e; rw [e];obtain ⟨h1,h2⟩:=zaP h
   exact ⟨len,by simp [h1]; omega,h2⟩
  ·cases h
 | vref q n i o lo len=>
  obtain ⟨l,h1,h2⟩:=zgn (k:=fun l=>sif (lo+len≤l.length) (k len)) h
  obtain ⟨h3,h4⟩:=zaP h2
  exact ⟨len,by simp [zdt,h1,h3]; omega,h4⟩
 | _=>cases h
theorem zzS {L:Loc} {kk:MK} {v:V} {k:List (Int×D)→Option R} (h:esK L kk v k=some r):∃ es,esOf L v=some (kk,es)∧k es=some r:=by
 unfold esK at h;split at h
 ·split at h
  ·rename_i e; subst e; exact ⟨_,rfl,h⟩
  ·cases h
 ·split at h
  ·rename_i e1;split at h
   ·rename_i e; subst e; exact ⟨_,by simp only [esOf,e1],h⟩
   ·cases h
  ·cases h
 ·exact zqw h
 ·cases h
theorem zht {L:Loc} {v:V} {x:Option R} (h:zr8 L v x=some r):zes L v=true∧x=some r:=by
 unfold zr8 at h;split at h
 ·split at h
  ·rename_i e;obtain ⟨h1,h2⟩:=zaP h
   exact ⟨by simp only [zes,e]; exact decide_eq_true h1,h2⟩
  ·rename_i e
   exact ⟨by simp only [zes,e],h⟩
  ·cases h
 ·obtain ⟨n,h1,h2⟩:=zsb h
  exact ⟨by
   simp only [zes]
   cases he:zdt L _ with
   | none=>rw [he] at h1; cases h1
   | some _=>rfl,h2⟩
 ·obtain ⟨n,h1,h2⟩:=zsb h
  exact ⟨by
   simp only [zes]
   cases he:zdt L _ with
   | none=>rw [he] at h1; cases h1
   | some _=>rfl,h2⟩
 ·split at h
  ·rename_i T e;obtain ⟨cs,h1,h2⟩:=zcM h;obtain ⟨d,h3,h4⟩:=zcM h2;obtain ⟨h5,h6⟩:=zaP h4;refine ⟨?_,h6⟩;split at h5
   ·simp [zes,esOf,ziJ,e,zc5,h1,h3]
   ·cases h5
  ·cases h
 ·split at h
  ·rename_i e; exact ⟨e,h⟩
  ·cases h
theorem zqx {L:Loc} {x:Option R}:∀ {vs:List V},zyo L vs x=some r→(vs.all fun v=>zes L v)=true∧x=some r
 | [],h=>⟨rfl,h⟩
 | v::vs,h=>by
  obtain ⟨h1,h2⟩:=zht h;obtain ⟨h3,h4⟩:=zqx h2
  exact ⟨by simp only [List.all_cons,h1,h3,Bool.and_self],h4⟩
theorem zjE {L:Loc} {v:V} {x:Option R} (h:zun L v x=some r):zng L v=true∧x=some r:=by
 unfold zun at h;split at h
 ·split at h
  ·rename_i e;obtain ⟨h1,h2⟩:=zaP h
   exact ⟨by simp only [zng,e]; exact decide_eq_true h1,h2⟩
  ·cases h
 ·obtain ⟨els,h1,h2⟩:=zgn h;obtain ⟨h3,h4⟩:=zaP h2
  exact ⟨by simp only [zng,h1]; exact decide_eq_true h3,h4⟩
 ·split at h
  ·rename_i e; exact ⟨e,h⟩
  ·cases h
theorem zew {L:Loc} {v:V} {k:D→Wr→Option R} (h:zyp L v k=some r):∃ x w,toD1 L v=some (x,w)∧k x w=some r:=by
 cases v with
 | d x=>exact ⟨_,_,rfl,h⟩
 | p q x=>exact ⟨_,_,rfl,h⟩
 | ref g n off len=>
  simp only [zyp] at h;simp only [toD1];split at h
  ·rename_i e; rw [e];split at h
   ·rename_i hg;obtain ⟨h1,h2⟩:=zaP h;rw [zzO] at h2
    exact ⟨_,_,by simp [h1,hg],h2⟩
   ·cases h
  ·cases h
 | _=>cases h
theorem zsc {L:Loc}:∀ {vs:List V} {k:List D→Wr→Option R},zB8 L vs k=some r→∃ xs w,zrE L vs=some (xs,w)∧k xs w=some r
 | [],k,h=>⟨[],[],rfl,h⟩
 | v::vs,k,h=>by
  obtain ⟨x,w,h1,h2⟩:=zew h
  obtain ⟨xs,ws,h3,h4⟩:=zsc (k:=fun xs ws=>k (x::xs) (w++ws)) h2
  exact ⟨_,_,by rw [zrE,h1]; dsimp only [Option.bind_some]; rw [h3]; rfl,h4⟩
theorem zAS {L:Loc} {v:V} {k:D→Wr→Option R} (h:zGf L v k=some r):∃ x w,toD2 L v=some (x,w)∧k x w=some r:=by
 cases v with
 | ptr g n off=>
  simp only [zGf] at h;simp only [toD2];split at h
  ·rename_i e; simp only [e]; exact ⟨_,_,rfl,h⟩
  ·rename_i e; simp only [e]; exact ⟨_,_,rfl,h⟩
  ·rename_i e; simp only [e]; exact ⟨_,_,rfl,h⟩
  ·rename_i e; simp only [e]; exact ⟨_,_,rfl,h⟩
  ·rename_i e; simp only [e];obtain ⟨x,w,h1,h2⟩:=zew h
   exact ⟨_,_,by rw [h1]; rfl,h2⟩
  ·cases h
 | d x=>exact zew (L:=L) (v:=.d x) h
 | p q x=>exact zew (L:=L) (v:=.p q x) h
 | ref g n off len=>exact zew (L:=L) (v:=.ref g n off len) h
 | _=>cases h
theorem znp {L:Loc}:∀ {vs:List V} {k:List D→Wr→Option R},zzP L vs k=some r→∃ xs w,zu1 L vs=some (xs,w)∧k xs w=some r
 | [],k,h=>⟨[],[],rfl,h⟩
 | v::vs,k,h=>by
  obtain ⟨x,w,h1,h2⟩:=zAS h
  obtain ⟨xs,ws,h3,h4⟩:=znp (k:=fun xs ws=>k (x::xs) (w++ws)) h2
  exact ⟨_,_,by rw [zu1,h1]; dsimp only [Option.bind_some]; rw [h3]; rfl,h4⟩
theorem zoq {L:Loc} {v:V} {k:D→Wr→Option R} (h:toDK L v k=some r):∃ x w,toD L v=some (x,w)∧k x w=some r:=by
 cases v with
 | agg ds ks vs=>
  simp only [toDK] at h;obtain ⟨h0,h⟩:=zaP h;obtain ⟨xs,w,h1,h2⟩:=zsc h
  exact ⟨_,_,by simp only [toD,h0,if_true,h1]; rfl,h2⟩
 | clo f a b=>
  simp only [toDK] at h;obtain ⟨xs,w,h1,h2⟩:=znp h;obtain ⟨ys,w',h3,h4⟩:=znp h2
  exact ⟨_,_,by simp only [toD,h1,h3]; rfl,h4⟩
 | d x=>exact zew (L:=L) (v:=.d x) h
 | p q x=>exact zew (L:=L) (v:=.p q x) h
 | ref g n off len=>exact zew (L:=L) (v:=.ref g n off len) h
 | _=>cases h
theorem zup {L:Loc}:∀ {vs:List V} {k:List D→Wr→Option R},zGg L vs k=some r→∃ xs w,toDs L vs=some (xs,w)∧k xs w=some r
 | [],k,h=>⟨[],[],rfl,h⟩
 | v::vs,k,h=>by
  obtain ⟨x,w,h1,h2⟩:=zoq h
  obtain ⟨xs,ws,h3,h4⟩:=zup (k:=fun xs ws=>k (x::xs) (w++ws)) h2
  exact ⟨_,_,by rw [toDs,h1]; dsimp only [Option.bind_some]; rw [h3]; rfl,h4⟩
theorem zqy {z:Nat} {L:Loc} {v:V} {k:D→Wr→Option R} (h:zvy z L v k=some r):∃ x w,ziK z L v=some (x,w)∧k x w=some r:=by
 unfold zvy at h;split at h
 ·exact ⟨_,_,rfl,h⟩
 ·exact ⟨_,_,rfl,h⟩
 ·rename_i x hn hf;obtain ⟨h1,h2⟩:=zaP h;refine ⟨x,[],?_,h2⟩
  have:ziK z L (.d x)=if x.flat=true then some (x,[]) else none:=by
   cases x with
   | sl t l=>cases l<;>cases t<;>first | rfl | exact (hn rfl).elim | exact (hf rfl).elim
   | _=>rfl
  rw [this,if_pos h1]
 ·obtain ⟨h1,h2⟩:=zaP h
  exact ⟨_,_,by simp only [ziK,h1,if_true],h2⟩
 ·rename_i g n off len;split at h
  ·rename_i e;split at h
   ·rename_i hz;obtain ⟨hc,hk⟩:=zdB h;refine ⟨_,_,?_,hk⟩;simp only [ziK,e];exact if_pos ⟨hc.1,hc.2.1,hc.2.2,hz⟩
   ·cases h
  ·rename_i e;split at h
   ·rename_i hz;obtain ⟨hc,hk⟩:=zdB h;refine ⟨_,_,?_,hk⟩;simp only [ziK,e];exact if_pos ⟨hc.1,hc.2.1,hc.2.2,hz⟩
   ·cases h
  ·cases h
 ·split at h
  ·rename_i e;obtain ⟨h1,h2⟩:=zaP h
   exact ⟨_,_,by simp only [ziK,e]; exact if_pos h1,h2⟩
  ·cases h
 ·cases h
theorem zjF {L:Loc}:∀ {zs:List Nat} {vs:List V} {k:List D→Wr→Option R},zri L zs vs k=some r→∃ xs w,zhf L zs vs=some (xs,w)∧k xs w=some r
 | [],[],k,h=>⟨[],[],rfl,h⟩
 | [],_::_,k,h=>by cases h
 | _::_,[],k,h=>by cases h
 | z::zs,v::vs,k,h=>by
  obtain ⟨x,w,h1,h2⟩:=zqy h
  obtain ⟨xs,ws,h3,h4⟩:=zjF (k:=fun xs ws=>k (x::xs) (w++ws)) h2
  exact ⟨_,_,by rw [zhf,h1]; dsimp only [Option.bind_some]; rw [h3]; rfl,h4⟩
theorem zec {nw:List Nat} {L:Loc} {v:V} {k:D→Option R} (h:zuo nw L v k=some r):∃ d,zjv nw L v=some d∧k d=some r:=by
 cases v with
 | d x=>exact ⟨_,rfl,h⟩
 | p q x=>exact ⟨_,rfl,h⟩
 | ref g n off len=>
  obtain ⟨l,h1,h2⟩:=ziU (L:=L) (v:=.ref g n off len) (k:=fun l=>k (.sl .lent l)) h
  exact ⟨_,by simp only [zjv,h1]; rfl,h2⟩
 | bref g n off len=>
  obtain ⟨l,h1,h2⟩:=ziU (L:=L) (v:=.bref g n off len) (k:=fun l=>k (.sl .lent l)) h
  exact ⟨_,by simp only [zjv,h1]; rfl,h2⟩
 | vref q n i o lo len=>
  simp only [zuo] at h;split at h
  ·cases h
  ·rename_i hq;obtain ⟨l,h1,h2⟩:=ziU h
   exact ⟨_,by simp only [zjv,hq,if_false,h1]; rfl,h2⟩
 | map g n=>
  simp only [zuo] at h;split at h
  ·rename_i e; exact ⟨_,by simp only [zjv,esOf,e]; rfl,h⟩
  ·cases h
 | _=>cases h
theorem zqz {nw:List Nat} {L:Loc}:∀ {vs:List V} {k:List D→Option R},zyq nw L vs k=some r→∃ ds,zn7 nw L vs=some ds∧k ds=some r
 | [],k,h=>⟨[],rfl,h⟩
 | v::vs,k,h=>by
  obtain ⟨x,h1,h2⟩:=zec h
  obtain ⟨xs,h3,h4⟩:=zqz (k:=fun xs=>k (x::xs)) h2
  exact ⟨x::xs,by rw [zn7,h1]; dsimp only [Option.bind_some]; rw [h3]; rfl,h4⟩
theorem zed {nw:List Nat} {L:Loc} {v:V} {k:D→Option R} (h:zzQ nw L v k=some r):∃ d,zqT nw L v=some d∧k d=some r:=by
 cases v with
 | ptr g n off=>
  simp only [zzQ] at h;simp only [zqT];split at h
  ·rename_i e; simp only [e]; exact ⟨_,rfl,h⟩
  ·rename_i e; simp only [e]; exact ⟨_,rfl,h⟩
  ·rename_i e; simp only [e]; exact ⟨_,rfl,h⟩
  ·rename_i e; simp only [e]; exact ⟨_,rfl,h⟩
  ·rename_i e; simp only [e]
   obtain ⟨d,h1,h2⟩:=zec (k:=fun d=>k (.at_ d)) h
   exact ⟨_,by rw [h1]; rfl,h2⟩
  ·cases h
 | d x=>exact zec (nw:=nw) (L:=L) (v:=.d x) h
 | p q x=>exact zec (nw:=nw) (L:=L) (v:=.p q x) h
 | ref g n off len=>exact zec (nw:=nw) (L:=L) (v:=.ref g n off len) h
 | bref g n off len=>exact zec (nw:=nw) (L:=L) (v:=.bref g n off len) h
 | vref q n i o lo len=>exact zec (nw:=nw) (L:=L) (v:=.vref q n i o lo len) h
 | map g n=>exact zec (nw:=nw) (L:=L) (v:=.map g n) h
 | _=>cases h
theorem zk5 {nw:List Nat} {L:Loc}:∀ {vs:List V} {k:List D→Option R},zr9 nw L vs k=some r→∃ ds,vs.mapM (zqT nw L)=some ds∧k ds=some r
 | [],k,h=>⟨[],rfl,h⟩
 | v::vs,k,h=>by
  obtain ⟨x,h1,h2⟩:=zed h
  obtain ⟨xs,h3,h4⟩:=zk5 (k:=fun xs=>k (x::xs)) h2
  exact ⟨x::xs,by simp [List.mapM_cons,h1,h3],h4⟩
theorem zuq {nw:List Nat} {L:Loc} {v:V} {k:D→Option R} (h:zD6 nw L v k=some r):∃ d,lend nw L v=some d∧k d=some r:=by
 cases v with
 | clo f a b=>
  obtain ⟨a',h1,h2⟩:=zk5 (L:=L) (vs:=a) (k:=fun a'=>zr9 nw L b fun b'=>k (.fn f a' b')) h
  obtain ⟨b',h3,h4⟩:=zk5 (k:=fun b'=>k (.fn f a' b')) h2
  exact ⟨_,by simp only [lend,h1,h3]; rfl,h4⟩
 | agg ds ks vs=>
  simp only [zD6] at h;obtain ⟨h0,h⟩:=zaP h;obtain ⟨xs,h1,h2⟩:=zqz h
  exact ⟨_,by simp only [lend,h0,if_true,h1]; rfl,h2⟩
 | d x=>exact zed (nw:=nw) (L:=L) (v:=.d x) h
 | p q x=>exact zed (nw:=nw) (L:=L) (v:=.p q x) h
 | ref g n off len=>exact zed (nw:=nw) (L:=L) (v:=.ref g n off len) h
 | bref g n off len=>exact zed (nw:=nw) (L:=L) (v:=.bref g n off len) h
 | vref q n i o lo len=>exact zed (nw:=nw) (L:=L) (v:=.vref q n i o lo len) h
 | map g n=>exact zed (nw:=nw) (L:=L) (v:=.map g n) h
 | ptr g n off=>exact zed (nw:=nw) (L:=L) (v:=.ptr g n off) h
 | _=>cases h
theorem zsd {nw:List Nat} {L:Loc}:∀ {vs:List V} {k:List D→Option R},zB9 nw L vs k=some r→∃ ds,vs.mapM (lend nw L)=some ds∧k ds=some r
 | [],k,h=>⟨[],rfl,h⟩
 | v::vs,k,h=>by
  obtain ⟨x,h1,h2⟩:=zuq h
  obtain ⟨xs,h3,h4⟩:=zsd (k:=fun xs=>k (x::xs)) h2
  exact ⟨x::xs,by simp [List.mapM_cons,h1,h3],h4⟩
theorem zGn {d:D} {ag:Bool} {n:Nat} (h:d.isAgg=ag∧d.width=n∧d.cell= !ag):eltD ag n 0 d=some d:=by
 obtain ⟨h1,h2,h3⟩:=h;subst h1
 cases d with
 | undef=>exact absurd (show false=true from h3) (by decide)
 | tup l=>exact absurd (show false=true from h3) (by decide)
 | agg cs=>
  have h2:cs.length=n:=h2;subst h2;show zhg true cs.length 0 cs=some (.agg cs)
  simp [zhg]
 | _=>rfl
theorem zxa {P:Program} {t:TypeId} {ag:Bool} {sz n off:Nat} {x:D} {k:V→Option R} (h:eltK P t ag sz n off x k=some r):∃ d,eltD ag n off x=some d∧k (.d d)=some r:=by
 unfold eltK at h;split at h
 ·rename_i hc;obtain ⟨hc2,hk⟩:=zdB (zeb h);rw [hc.1];exact ⟨x,zGn hc2,hk⟩
 ·obtain ⟨cs,e,h1⟩:=ziT h;subst e;obtain ⟨d,h2,h3⟩:=zhc h1
  exact ⟨d,h2,zeb (f:=fun d=>k (.d d)) h3⟩
theorem zyu {P:Program} {L:Loc} {t:TypeId} {q i off n:Nat} {ag fl:Bool} {k:V→Option R} (h:zCa P L t q i off n ag fl k=some r):∃ v,zBu L q i off n ag fl=some v∧k v=some r:=by
 unfold zCa at h;unfold zBu;split at h
 ·rename_i w T e;rw [e];obtain ⟨cs,h1,h2⟩:=zcM h;dsimp only;rw [h1];dsimp only;split at h2
  ·rename_i hag;obtain ⟨h3,h4⟩:=zaP h2;rw [if_pos hag,if_pos h3];split at h4
   ·rename_i hfl;obtain ⟨h5,h6⟩:=zaP h4;rw [if_pos hfl]
    exact ⟨_,if_pos h5,zeb (f:=fun d=>k (.d d)) h6⟩
   ·rename_i hfl;rw [if_neg hfl];exact ⟨_,rfl,h4⟩
  ·rename_i hag;rw [if_neg hag];obtain ⟨x,h3,h4⟩:=zcM h2;rw [h3];split at h4
   ·obtain ⟨l,e2,h5⟩:=zmf h4;subst e2;exact ⟨_,rfl,h5⟩
   ·split at h4
    ·obtain ⟨l,e2,h5⟩:=zhr h4;subst e2;exact ⟨_,rfl,h5⟩
    ·cases h4
   ·obtain ⟨h5,h6⟩:=zaP (zeb h4);refine ⟨_,?_,h6⟩;split
    ·rename_i e2; injection e2 with e2; subst e2; cases h5
    ·rename_i e2; injection e2 with e2; subst e2; cases h5
    ·rename_i e2; injection e2 with e2; subst e2; rw [if_pos h5]
    ·rename_i e2; cases e2
 ·cases h
theorem zxb {P:Program} {t:TypeId} {ag:Bool} {n off:Nat} {ds:List D} {ks:List Nat} {vs:List V} {k:V→Option R} (h:zyr P t ag n off ds ks vs k=some r):∃ v,zn8 ag n off ds ks vs=some v∧k v=some r:=by
 unfold zyr at h;unfold zn8;split at h
 ·rename_i hag;obtain ⟨h1,h2⟩:=zaP h;rw [if_pos hag];exact ⟨_,if_pos h1,h2⟩
 ·rename_i hag;obtain ⟨h1,h2⟩:=zaP h;rw [if_neg hag,if_pos h1];split at h2
  ·rename_i e; rw [e]; exact ⟨_,rfl,h2⟩
  ·rename_i e; rw [e];obtain ⟨d,h3,h4⟩:=zcM h2
   exact ⟨.d d,by simp [h3],zeb (f:=fun d=>k (.d d)) h4⟩
theorem zur {P:Program} {L:Loc} {t:TypeId} {p:V} {k:V→Option R} (h:zD7 P L t p k=some r):∃ v,zAB P L t p=some v∧k v=some r:=by
 unfold zD7 at h;unfold zAB;split at h
 ·rename_i ag n h1 h2;rw [h1,h2];dsimp only;split at h
  ·obtain ⟨hc,hk⟩:=zdB (zeb h)
   exact ⟨_,by simp [hc],hk⟩
  ·exact zyu h
  ·split at h
   ·rename_i e;obtain ⟨d,h3,h4⟩:=zhc h
    exact ⟨_,by simp [e,h3],zeb (f:=fun d=>k (.d d)) h4⟩
   ·rename_i e;obtain ⟨d,h3,h4⟩:=zhc h
    exact ⟨_,by simp [e,h3],zeb (f:=fun d=>k (.d d)) h4⟩
   ·rename_i e;obtain ⟨v,h3,h4⟩:=zxb h
    exact ⟨v,by simp [e,h3],h4⟩
   ·cases h
  ·split at h
   ·rename_i e;obtain ⟨x,h3,h4⟩:=zcM h;obtain ⟨d,h5,h6⟩:=zxa h4
    exact ⟨_,by simp [e,h3,h5],h6⟩
   ·cases h
  ·obtain ⟨els,h3,h4⟩:=zgn h;obtain ⟨x,h5,h6⟩:=zcM h4;obtain ⟨d,h7,h8⟩:=zxa h6
   exact ⟨_,by simp [h3,h5,h7],h8⟩
  ·cases h
 ·cases h
theorem zyv {ag:Bool} {n sz off:Nat} {e v:D} (hx:∀ xs,v=.agg xs→False) (hc:ag=false∧n=1∧v.cell=true):
  zgk ag n sz off e v=(match e with
   | .agg cs=>if off < cs.length then some (.agg (cs.set off v)) else none
   | _=>if off=0∧sz=1 then some v else none):=by
 unfold zgk
 cases v<;>first | exact (hx _ rfl).elim | (dsimp only; rw [if_pos hc]; cases e<;>rfl)
theorem zk6 {ag:Bool} {n sz off:Nat} {e v:D} {k:D→Option R} (h:zsa ag n sz off e v k=some r):∃ y,zgk ag n sz off e v=some y∧k y=some r:=by
 unfold zsa at h;split at h
 ·obtain ⟨hc,hk⟩:=zcL h
  exact ⟨_,by unfold zgk; exact if_pos hc,hk⟩
 ·rename_i x hx;obtain ⟨hc,hk⟩:=zdB h;rw [zyv hx hc];split at hk
  ·rename_i hsz;obtain ⟨hc2,hk2⟩:=zcK hk;refine ⟨_,?_,hk2⟩
   cases e<;>first | (exfalso; have:=hc2.1; simp [D.isAgg] at this; done) | (dsimp only; rw [if_pos ⟨hc2.2,hsz⟩])
  ·obtain ⟨cs,e2,h5⟩:=ziT hk;subst e2;obtain ⟨h6,h7⟩:=zaP h5
   exact ⟨_,by dsimp only; rw [if_pos h6],h7⟩
theorem zxc {P:Program} {L:Loc} {q i off n:Nat} {ag fl:Bool} {v:V} {k:Out→Option R} (h:zys P L q i off n ag fl v k=some r):∃ out,ziL L q i off n ag fl v=some out∧k out=some r:=by
 unfold zys at h;unfold ziL;split at h
 ·rename_i T e;rw [e];obtain ⟨cs,h1,h20⟩:=zcM h;obtain ⟨h0,h2⟩:=zaP h20;clear h h20;dsimp only;rw [h1];dsimp only;rw [if_pos h0];split at h2
  ·rename_i hfl;rw [if_pos hfl];split at h2
   ·obtain ⟨hc,hk⟩:=zcL h2;have hk:=zeS hk
    exact ⟨_,by dsimp only; exact if_pos hc,hk⟩
   ·rename_i x hx;obtain ⟨hc,hk⟩:=zcL h2;have hk:=zeS hk;refine ⟨_,?_,hk⟩
    cases x<;>first | exact (hx _ rfl).elim | (dsimp only; exact if_pos hc)
   ·cases h2
  ·rename_i hfl;rw [if_neg hfl];split at h2
   ·rename_i hag;rw [if_pos hag];split at h2
    ·obtain ⟨hc,hk⟩:=zcK h2;have hk:=zeS hk
     exact ⟨_,by dsimp only; exact if_pos hc,hk⟩
    ·obtain ⟨xs,w,h3,h4⟩:=zjF h2;obtain ⟨hc,hk⟩:=zcL h4;have hk:=zeS hk
     exact ⟨_,by dsimp only; rw [h3]; dsimp only [Option.bind_some]; exact if_pos hc,hk⟩
    ·cases h2
   ·rename_i hag;rw [if_neg hag];obtain ⟨x,w,h3,h4⟩:=zqy h2;split at h4
    ·rename_i hn;have hk:=zeS h4
     exact ⟨_,by rw [h3]; dsimp only [Option.bind_some]; exact if_pos hn,hk⟩
    ·cases h4
 ·cases h
theorem zCh {a v:V} {k:V→Option R} (h:unpK a v k=some r):k v.unp=some r:=by
 unfold unpK at h;split at h
 ·obtain ⟨i,hd,h'⟩:=zop h;subst hd;exact h'
 ·exact h
theorem zyw {P:Program} {L:Loc} {t:TypeId} {p v:V} {k:Out→Option R} (h:zCb P L t p v k=some r):
  ∃ out,zwu P L t p v=some out∧k out=some r:=by
 unfold zCb at h;split at h
 ·rename_i ag n h1 h2;unfold zwu;rw [h1,h2];dsimp only;split at h
  ·rename_i g l off;dsimp only;split at h
   ·rename_i a ds e;rw [e];dsimp only;split at h
    ·obtain ⟨hc,hk⟩:=zdB h
     exact ⟨_,by dsimp only; rw [if_pos hc],by rw [zFs hc.2.1] at hk; exact hk⟩
    ·obtain ⟨hc,hk⟩:=zcL h
     exact ⟨_,by dsimp only; rw [if_pos hc],hk⟩
    ·rename_i x hx;obtain ⟨hc,hk⟩:=zcL h;refine ⟨_,?_,hk⟩
     cases x<;>first | exact (hx _ rfl).elim | (dsimp only; rw [if_pos hc])
    ·rename_i hn1 hn2 hn3;obtain ⟨hc,hk⟩:=zcL h;refine ⟨_,?_,hk⟩
     cases v<;>first | exact (hn3 _ rfl).elim | exact (hn2 _ _ _ rfl).elim | (dsimp only; rw [if_pos hc])
   ·rename_i a ds ks vs e;rw [e];dsimp only;split at h
    ·obtain ⟨hc,hk⟩:=zdB h
     exact ⟨_,by dsimp only; rw [if_pos hc],hk⟩
    ·obtain ⟨hc,hk⟩:=zcL h
     exact ⟨_,by dsimp only; rw [if_pos hc],hk⟩
    ·rename_i x hx;obtain ⟨hc,hk⟩:=zcL h;refine ⟨_,?_,hk⟩
     cases x<;>first | exact (hx _ rfl).elim | (dsimp only; rw [if_pos hc])
    ·rename_i hn1 hn2 hn3;obtain ⟨hc,hk⟩:=zcL h;refine ⟨_,?_,hk⟩
     cases v<;>first | exact (hn3 _ rfl).elim | exact (hn2 _ _ _ rfl).elim | (dsimp only; rw [if_pos hc])
   ·cases h
  ·rename_i g l i off;dsimp only;split at h
   ·rename_i sz els e;rw [e];dsimp only;obtain ⟨d,h3,h4⟩:=zcM h;rw [h3];dsimp only [Option.bind_some];split at h4
    ·obtain ⟨y,h5,h6⟩:=zk6 h4
     exact ⟨_,by dsimp only; rw [h5]; rfl,h6⟩
    ·rename_i hn;obtain ⟨x,w,h5,h6⟩:=zoq h4;split at h6
     ·cases h6
     ·rename_i hg;obtain ⟨y,h7,h8⟩:=zk6 h6;refine ⟨_,?_,h8⟩
      have:((toD L v).bind fun r=>if g∈r.2.map (·.1) then none else (zgk ag n sz off d r.1).map fun y=>({ v:=.d (.tup []),wr:=r.2++[(g,(l,.arr sz (els.set i y) true))] }:Out))=some { v:=.d (.tup []),wr:=w++[(g,(l,.arr sz (els.set i y) true))] }:=by
       rw [h5]; dsimp only [Option.bind_some]; rw [if_neg hg,h7]; rfl
      cases v<;>first | exact (hn _ rfl).elim | exact this
   ·cases h
  ·rename_i q l i o j off;dsimp only;split at h
   ·rename_i x T e;obtain ⟨els,h3,h4⟩:=zgn h;obtain ⟨d,h5,h6⟩:=zcM h4;obtain ⟨y,h7,h8⟩:=zk6 h6;obtain ⟨h9,h10⟩:=zaP h8;have hk:=zeS h10
    exact ⟨_,by rw [e,h3]; dsimp only; rw [h5]; dsimp only [Option.bind_some]; rw [h7]; dsimp only [Option.bind_some]; rw [if_pos h9],hk⟩
   ·cases h
  ·exact zxc h
  ·cases h
 ·cases h
end
end Wf

namespace Wf
open Go Go.RowKit
set_option linter.unusedVariables false
set_option linter.unusedSimpArgs false
section
variable {R:Type} {r:R}
theorem zxd {P:Program} {L:Loc} {t:Nat} {ty:TypeId} {s x:V} {k:Out→Option R} (h:zyt P L t ty s x k=some r):
  ∃ out,zrG P L t ty s x=some out∧k out=some r:=by
 unfold zyt at h;obtain ⟨xs,h1,h2⟩:=ziU h;unfold zrG;rw [h1];dsimp only;split at h2
 ·cases h2
 ·rename_i sz h3;split at h2
  ·obtain ⟨hc,hk⟩:=zcK h2
   exact ⟨_,by dsimp only; rw [zhp h3 (by simpa using hc.1)]; simp [hc.2],hk⟩
  ·obtain ⟨hc,hk⟩:=zcK h2
   exact ⟨_,by dsimp only; rw [zhp h3 (by simpa using hc.1)]; simp [hc.2],hk⟩
  ·rename_i y l;obtain ⟨hc,hk⟩:=zcL h2;refine ⟨_,?_,hk⟩
   cases xs with
   | nil=>exact absurd rfl hc.1
   | cons x0 xs=>
    dsimp only
    rw [zhp h3 (by simpa using hc.2.1)]
    simp [hc.2.2.1,hc.2.2.2]
  ·rename_i g n off len;split at h2
   ·rename_i sz' els e;split at h2
    ·rename_i hg;obtain ⟨hc,hk⟩:=zcL h2;refine ⟨_,?_,hk⟩;dsimp only
     rw [e,zhp h3 (by simpa using hc.1)]
     simp [hc.2,hg]
    ·cases h2
   ·cases h2
  ·rename_i q n i o lo len;split at h2
   ·rename_i T e;obtain ⟨els,h4,h5⟩:=zgn h2;obtain ⟨hc,h6⟩:=zcL h5;have hk:=zeS h6;refine ⟨_,?_,hk⟩;dsimp only;simp only [e,h4]
    rw [zhp h3 (by simpa using hc.1)]
    exact if_pos hc.2
   ·cases h2
  ·cases h2
theorem zxe {P:Program} {L:Loc} {ty2:TypeId} {x:V} {k:List D→Option R} (h:srcK P L ty2 x k=some r):∃ l,zwx P L ty2 x=some l∧k l=some r:=by
 unfold srcK at h;split at h
 ·rename_i e
  exact ⟨_,by simp only [zwx,e,if_true],h⟩
 ·cases h
 ·rename_i e;obtain ⟨l,h1,h2⟩:=ziU h;refine ⟨l,?_,h2⟩;unfold zwx;split
  ·cases h1
  ·rw [if_neg (by rw [e]; simp)]; exact h1
theorem zAT {P:Program} {L:Loc} {ty ty2:TypeId} {s x:V} {k:Out→Option R} (h:zGh P L ty ty2 s x k=some r):
  ∃ out,zAC P L ty ty2 s x=some out∧k out=some r:=by
 unfold zGh at h;split at h
 ·rename_i g n off len ez h1;split at h
  ·rename_i sz els e;obtain ⟨xs,h2,h3⟩:=zxe h;obtain ⟨hc,hk⟩:=zcL h3
   exact ⟨_,by unfold zAC; rw [h1,h2]; dsimp only; rw [e]; exact if_pos hc,hk⟩
  ·cases h
 ·rename_i g n off len ez h1;split at h
  ·rename_i a ds e;obtain ⟨xs,h2,h3⟩:=zxe h;obtain ⟨⟨c1,c2,c3,c4⟩,hk⟩:=zcL h3
   refine ⟨_,by unfold zAC; rw [h1,h2]; dsimp only; rw [e]; exact if_pos ⟨c1,c2,c3⟩,?_⟩
   subst c4;simpa using hk
  ·cases h
 ·cases h
theorem zAU {sz:Nat} {l:List D} (h:zyn sz l=true):(l.all fun d=>d.cell || d.isAgg)=true∧(l.all fun d=>some d.width=some sz)=true:=by
 simp only [zyn,List.all_eq_true,Bool.and_eq_true,decide_eq_true_eq] at*
 exact ⟨fun x hx=>(h x hx).1,fun x hx=>by rw [(h x hx).2]⟩
theorem zyx {P:Program} {L:Loc} {t:TypeId} {x:V} {lo hi mx:Option V} {k:V→Option R} (h:zCc P L t x lo hi mx k=some r):
  ∃ v,zwy P L t x lo hi mx=some v∧k v=some r:=by
 unfold zCc at h;unfold zwy;split at h
 ·rename_i lo' hi' mx' h1 h2 h3;rw [h1,h2,h3];dsimp only;split at h
  ·dsimp only at h;split at h
   ·rename_i sz hsz;obtain ⟨hc,hk⟩:=zoo h;obtain ⟨c2,c3,c4,c5,c6,c7⟩:=hc;obtain ⟨q1,q2⟩:=zAU c7
    exact ⟨_,by dsimp only; rw [if_pos ⟨by rw [hsz]; rfl,c2,c3,c4,c5,c6,q1,by rw [hsz]; exact q2⟩]; rfl,hk⟩
   ·cases h
  ·obtain ⟨hc,hk⟩:=zon h
   exact ⟨_,by dsimp only; rw [if_pos hc],hk⟩
  ·rename_i g n off len;dsimp only at h ⊢;split at h
   ·rename_i sz sz' els lv e1 e2;rw [e1,e2];dsimp only;split at h
    ·rename_i hsz;split at h
     ·obtain ⟨hc,hk⟩:=zdB h
      exact ⟨_,by rw [if_pos ⟨hsz,hc.1,hc.2.1,hc.2.2,.inl rfl⟩,if_pos rfl],hk⟩
     ·rename_i m;obtain ⟨hc,hk⟩:=zon h;obtain ⟨c1,c2,c3,c4,c5⟩:=hc
      exact ⟨_,by rw [if_pos ⟨hsz,c4,by rw [c3]; exact Int.le_refl _,c5,.inr ⟨c1,by rw [c2],c3⟩⟩,if_neg (by simp)],hk⟩
    ·cases h
   ·cases h
  ·rename_i g n off len;dsimp only at h ⊢;split at h
   ·rename_i sz a ds m e1 e2;rw [e1,e2];dsimp only;split at h
    ·rename_i hsz;obtain ⟨hc,hk⟩:=zoo h;obtain ⟨c1,c2,c3,c4,c5,c6⟩:=hc
     exact ⟨_,by rw [if_pos ⟨hsz,c1,c5,by rw [c4]; exact Int.le_refl _,c6,c2,by rw [c3],c4⟩],hk⟩
    ·cases h
   ·cases h
  ·rename_i q n i o off len;dsimp only at h ⊢;split at h
   ·rename_i sz e1;rw [e1];split at h
    ·rename_i hsz;obtain ⟨l,e2,h4⟩:=zgn h;obtain ⟨h5,h6⟩:=zaP h4;rw [e2];dsimp only;split at h6
     ·obtain ⟨hc,hk⟩:=zdB h6
      exact ⟨_,by rw [if_pos ⟨hsz,h5,hc.1,hc.2.1,hc.2.2,.inl rfl⟩,if_pos rfl],hk⟩
     ·rename_i m;obtain ⟨hc,hk⟩:=zon h6;obtain ⟨c1,c2,c3,c4,c5⟩:=hc
      exact ⟨_,by rw [if_pos ⟨hsz,h5,c4,by rw [c3]; exact Int.le_refl _,c5,.inr ⟨c1,by rw [c2],c3⟩⟩,if_neg (by simp)],hk⟩
    ·cases h
   ·cases h
  ·rename_i g n off;dsimp only at h ⊢;split at h
   ·rename_i q sz ag a' ds e1 e2;rw [e1,e2];obtain ⟨hc,hk⟩:=zB6 h;exact ⟨_,if_pos hc,hk⟩
   ·cases h
  ·cases h
 ·cases h
theorem zse {P:Program} {L:Loc} {t:TypeId} {x i:V} {k:V→Option R} (h:zpz P L t x i k=some r):
  ∃ v,ziM P L t x i=some v∧k v=some r:=by
 unfold zpz at h;split at h
 ·rename_i q n;unfold ziM;dsimp only;split at h
  ·split at h
   ·rename_i sz e h1 h2;obtain ⟨h0,h3⟩:=zaP h;obtain ⟨d,h4,h5⟩:=zcM h3;obtain ⟨hc,hk⟩:=zcK (zeb h5)
    exact ⟨_,by rw [if_neg (by omega)]; dsimp only; rw [h1,h4]; dsimp only; rw [if_pos hc],hk⟩
   ·cases h
  ·split at h
   ·rename_i sz sz' els lv h1 h2;split at h
    ·rename_i hsz;obtain ⟨hc,hk⟩:=zcK h
     exact ⟨_,by rw [if_neg (by omega)]; dsimp only; rw [h1,h2]; dsimp only; rw [if_pos ⟨hc.2,hsz⟩],hk⟩
    ·cases h
   ·cases h
  ·split at h
   ·rename_i sz h1;split at h
    ·rename_i hsz;obtain ⟨els,h2,h3⟩:=zgn h;obtain ⟨hc,hk⟩:=zcK h3
     exact ⟨_,by rw [if_neg (by omega)]; dsimp only; rw [h1,h2]; dsimp only; rw [if_pos ⟨hc.2,hsz⟩],hk⟩
    ·cases h
   ·cases h
  ·split at h
   ·rename_i sz h1;obtain ⟨hc,hk⟩:=zdB h
    exact ⟨_,by rw [if_neg (by omega)]; dsimp only; rw [h1]; dsimp only; rw [if_pos ⟨hc.1,hc.2.2⟩],hk⟩
   ·cases h
  ·split at h
   ·rename_i m sz ag h1;obtain ⟨hc,hk⟩:=zcK h
    exact ⟨_,by rw [if_neg (by omega)]; dsimp only; rw [h1]; dsimp only; rw [if_pos hc.2],hk⟩
   ·cases h
  ·split at h
   ·rename_i m sz ag h1;obtain ⟨hc,h2⟩:=zcK h;obtain ⟨d,h3,hk⟩:=zhc h2
    exact ⟨_,by rw [if_neg (by omega)]; dsimp only; rw [h1]; dsimp only; rw [if_pos hc.2,h3]; rfl,hk⟩
   ·cases h
  ·split at h
   ·rename_i m sz ag h1;obtain ⟨hc,hk⟩:=zcK h
    exact ⟨_,by rw [if_neg (by omega)]; dsimp only; rw [h1]; dsimp only; rw [if_pos hc.2],hk⟩
   ·cases h
  ·split at h
   ·rename_i m sz ag h1;obtain ⟨hc,hk⟩:=zcK h
    exact ⟨_,by rw [if_neg (by omega)]; dsimp only; rw [h1]; dsimp only; rw [if_pos hc.2],hk⟩
   ·cases h
  ·split at h
   ·rename_i m sz ag h1;obtain ⟨hc,hk⟩:=zcK h
    exact ⟨_,by rw [if_neg (by omega)]; dsimp only; rw [h1]; dsimp only; rw [if_pos hc.2],hk⟩
   ·cases h
  ·cases h
 ·cases h
theorem zCi {d:D} {k:D→Option R} (h:letD d k=some r):k d=some r:=by
 cases d with
 | int q n=>
  have h:letN n (fun n=>k (.int q n))=some r:=h
  rw [zaF] at h; exact h
 | _=>exact h
theorem zCj {bt:Bool} {op:BinOp} {a b:D} {k:D→Option R} (h:binK bt op a b k=some r):∃ d,abin bt op a b=some d∧k d=some r:=by
 unfold binK at h;split at h
 ·split at h
  ·rename_i e; subst e;obtain ⟨h0,h1⟩:=zaP h;simp only [zaF] at h1
   exact ⟨_,by simp [abin,ibin,h0],h1⟩
  ·cases h
 ·split at h
  ·rename_i e; subst e;obtain ⟨h0,h1⟩:=zaP h;simp only [zaF] at h1
   exact ⟨_,by simp [abin,ibin,h0],h1⟩
  ·cases h
 ·obtain ⟨h0,h1⟩:=zaP h;rw [zaF] at h1
  exact ⟨_,by simp [abin,zwt,Int.not_lt.2 h0],h1⟩
 ·obtain ⟨h0,h1⟩:=zaP h;rw [zaF] at h1
  exact ⟨_,by simp [abin,zwt,Int.not_lt.2 h0],h1⟩
 ·split at h
  ·exact ⟨_,by assumption,zCi h⟩
  ·cases h
theorem zD9 {b:Bool} {x y:Option R} (h:brK b x y=some r):(b=true∧x=some r)∨(b=false∧y=some r):=by
 cases b
 ·exact .inr ⟨rfl,h⟩
 ·exact .inl ⟨rfl,h⟩
theorem zus {L:Loc} {q:Nat} {a:V} {k:Bool→Option R} (h:zD8 L q a k=some r):∃ b,zqU L q a=some b∧k b=some r:=by
 unfold zD8 at h;split at h
 ·rcases zuk h with ⟨e,hk⟩ | ⟨⟨_,_,_,e⟩ | ⟨_,e⟩,hk⟩<;>subst e<;>exact ⟨_,rfl,hk⟩
 ·rcases zuk h with ⟨e,hk⟩ | ⟨⟨_,_,_,e⟩ | ⟨_,e⟩,hk⟩<;>subst e
  ·exact ⟨_,rfl,hk⟩
  ·exact ⟨_,rfl,hk⟩
  ·exact ⟨_,rfl,hk⟩
 ·rcases zym h with ⟨e,hk⟩ | ⟨⟨_,_,_,e⟩,hk⟩<;>subst e<;>exact ⟨_,rfl,hk⟩
 ·rcases zD9 h with ⟨e,h1⟩ | ⟨e,h1⟩
  ·rename_i t l
   cases l with
   | cons _ _=>cases e
   | nil=>
    split at h1
    ·rename_i ht; subst ht; exact ⟨_,rfl,h1⟩
    ·split at h1
     ·rename_i ht; subst ht; exact ⟨_,rfl,h1⟩
     ·obtain ⟨h2,h3⟩:=zaP h1;subst h2; exact ⟨_,rfl,h3⟩
  ·rename_i t l
   cases l with
   | nil=>cases e
   | cons _ _=>exact ⟨_,rfl,h1⟩
 ·obtain ⟨h1,h2⟩:=zht h;obtain ⟨h3,h4⟩:=zaP h2
  exact ⟨_,by simp only [zqU]; simp [h1,h3],h4⟩
 ·obtain ⟨h1,h2⟩:=zht h;obtain ⟨h3,h4⟩:=zaP h2
  exact ⟨_,by simp only [zqU]; simp [h1,h3],h4⟩
 ·split at h
  ·rename_i b e; exact ⟨b,e,h⟩
  ·cases h
theorem zAV {d:D} {k:V→Wr→Option R} (h:zGj d k=some r):k (.d d) []=some r∧(∀ l,d≠.tup l)∧∀ l,d≠.sl .own l:=by
 obtain ⟨h1,h2⟩:=zaP h;refine ⟨h2,?_,?_⟩
 ·rintro l rfl; cases h1
 ·rintro l rfl; cases h1
theorem zqA {P:Program} {L:Loc} {id sz:Nat} {t:TypeId} {d:D} {k:V→Wr→Option R} (h:zvz P L id sz t d k=some r):k (zgj L id sz d).1 (zgj L id sz d).2=some r∧∀ l,d≠.tup l:=by
 unfold zvz at h;split at h
 ·obtain ⟨h1,h2,h3⟩:=zAV (zeb (f:=fun d=>zGj d k) h)
  refine ⟨?_,h2⟩
  have:zgj L id sz d=(.d d,[]):=by
   unfold zgj;split
   ·exact (h3 _ rfl).elim
   ·rfl
  rw [this]; exact h1
 ·obtain ⟨els,e,h⟩:=zmf h
  subst e; exact ⟨h,by simp⟩
theorem zCk {n:Nat} {l:List D} {k:List D→Option R} (h:tupN n l k=some r):k l=some r:=by
 obtain ⟨x,e,h⟩:=zev h;rw [e]; exact h
theorem zqB {P:Program} {L:Loc} {t:Nat}:∀ {szs:List Nat} {j:Nat} {tys:List TypeId} {ds:List D} {k:List V→Wr→Option R},zvA P L t j szs tys ds k=some r→
  k (zhZ L t j szs ds).1 (zhZ L t j szs ds).2=some r
 | [],j,[],[],k,h=>h
 | [],j,_::_,_,k,h=>by cases h
 | [],j,[],_::_,k,h=>by cases h
 | _::_,j,[],_,k,h=>by cases h
 | _::_,j,_::_,[],k,h=>by cases h
 | sz::szs,j,ty::tys,d::ds,k,h=>by
  have h2:=(zqA (k:=fun v w=>zvA P L t (j+1) szs tys ds fun vs ws=>k (v::vs) (w++ws)) h).1
  exact zqB (k:=fun vs ws=>k ((zgj L (t+1000*(j+1)) sz d).1::vs) ((zgj L (t+1000*(j+1)) sz d).2++ws)) h2
theorem zsf {P:Program} {L:Loc} {t:Nat} {szs:List Nat} {ty:TypeId} {d:D} {k:V→Wr→Option R} (h:zzR P L t szs ty d k=some r):
  ∃ x,zrF L t szs d=some x∧k x.1 x.2=some r:=by
 unfold zzR at h;split at h
 ·obtain ⟨h,hd⟩:=zqA h;refine ⟨_,?_,h⟩;unfold zrF
  cases d<;>first | rfl | exact absurd rfl (hd _)
 ·obtain ⟨ds,e,h2⟩:=zum h;subst e;obtain ⟨e,h3⟩:=zr6 h2;subst e;exact ⟨_,rfl,h3⟩
 ·split at h
  ·obtain ⟨ds,e,h2⟩:=zum h;subst e;have h:=zCk h2;split at h
   ·rename_i hc
    have h:=zqB (k:=fun vs w=>k (.tup vs) w) h
    exact ⟨_,by simp only [zrF]; rw [if_pos hc],h⟩
   ·cases h
  ·cases h
theorem zyy {nw:List Nat} {L:Loc} {pm:PM×Nat} {v:V} {k:D→List (Nat×Nat×Nat×Nat)→Wr→Option R} (h:zCd nw L pm v k=some r):∃ x,zkp nw L pm v=some x∧k x.1 x.2.1 x.2.2=some r:=by
 unfold zCd at h;unfold zkp;split at h
 ·obtain ⟨d,h1,h2⟩:=zuq h
  exact ⟨_,by simp only [h1]; rfl,h2⟩
 ·dsimp only;split at h
  ·rename_i g n off len;dsimp only;split at h
   ·rename_i sz' els e;split at h
    ·rename_i hc0;obtain ⟨hc,hk⟩:=zcK h
     exact ⟨_,by simp only [e]; exact if_pos ⟨hc.1,hc0.1,hc0.2,hc.2⟩,hk⟩
    ·cases h
   ·cases h
  ·exact ⟨_,rfl,h⟩
  ·exact ⟨_,rfl,h⟩
  ·cases h
 ·dsimp only;split at h
  ·rename_i g n off len;dsimp only;split at h
   ·rename_i sz' els e;split at h
    ·rename_i hc0;obtain ⟨hc,hk⟩:=zcK h
     exact ⟨_,by simp only [e]; exact if_pos ⟨hc.1,hc0.1,hc0.2,hc.2⟩,hk⟩
    ·cases h
   ·cases h
  ·cases h
theorem zsg {nw:List Nat} {L:Loc}:∀ {vs:List V} {pms:List (PM×Nat)} {k:List D→List (Nat×Nat×Nat×Nat)→Wr→Option R},zCe nw L pms vs k=some r→∃ x,zn9 nw L pms vs=some x∧k x.1 x.2.1 x.2.2=some r
 | [],pms,k,h=>⟨([],[],[]),rfl,h⟩
 | v::vs,pms,k,h=>by
  obtain ⟨x,h1,h2⟩:=zyy h
  obtain ⟨y,h3,h4⟩:=zsg (k:=fun ds ms ws=>k (x.1::ds) (x.2.1++ms) (x.2.2++ws)) h2
  exact ⟨_,by rw [zn9,h1]; dsimp only [Option.bind_some]; rw [h3]; rfl,h4⟩
theorem zut:∀ {ms:List (Nat×Nat×Nat×Nat)} {os:List (List D)} {k:Wr→Option R},zGk ms os k=some r→∃ w,zkc ms os=some w∧k w=some r
 | [],os,k,h=>by
  obtain ⟨e,h⟩:=zr6 h
  subst e; exact ⟨_,rfl,h⟩
 | (g,n,sz,len)::ms,os,k,h=>by
  obtain ⟨els,os',e,h1⟩:=zul h;subst e;obtain ⟨h2,h3⟩:=zaP h1
  obtain ⟨w,h4,h5⟩:=zut (k:=fun w=>k ((g,(n,.arr sz els true))::w)) h3
  exact ⟨_,by rw [zkc,if_pos h2,h4]; rfl,h5⟩
theorem zAW {P:Program} {Γ:Env} {L:Loc} {t:Nat} {ty:TypeId} {f:V} {args:List V} {k:Out→Option R} (h:zGl P Γ L t ty f args k=some r):
  ∃ out,zBv Γ L t f args=some out∧k out=some r:=by
 unfold zGl at h;unfold zBv;split at h
 ·rename_i q a b e;rw [e];dsimp only;split at h
  ·rename_i szs F e2;rw [e2];obtain ⟨ds,h1,h2⟩:=zsd h;dsimp only;rw [h1];obtain ⟨x,h3,h4⟩:=zuj h2;obtain ⟨y,h5,h6⟩:=zsf h4
   exact ⟨_,by dsimp only [Option.bind_some]; rw [h3]; dsimp only [Option.bind_some]; rw [h5]; rfl,h6⟩
  ·rename_i pms szs ks F e2;rw [e2];obtain ⟨⟨ds,ms,kl⟩,h1,h2⟩:=zsg h;dsimp only at h2 ⊢;rw [h1];split at h2
   ·rename_i Ts e3;rw [e3];dsimp only;split at h2
    ·rename_i hc;obtain ⟨x,h3,h4⟩:=zuj h2;obtain ⟨wo,h5,h6⟩:=zut h4;obtain ⟨h7,h8⟩:=zpx h6;obtain ⟨y,h9,h10⟩:=zsf h8;refine ⟨_,?_,h10⟩;rw [if_pos hc,h3];dsimp only [Option.bind_some];rw [h5];dsimp only [Option.bind_some];rw [if_pos h7,h9];rfl
    ·cases h2
   ·cases h2
  ·cases h
 ·cases h
theorem zyz {P:Program} {s f:Nat} {x:V} {k:V→Option R} (h:zCf P s f x k=some r):
  ∃ v,(match x,ztr P s f,zju P s f with
  | .d (.agg cs),some (off,size),some ag=>out ((zhg ag size off cs).map .d)
  | .agg ds ks vs,some (off,size),some ag=>out (zn8 ag size off ds ks vs)
  | _,_,_=>none)=some v∧k v.v=some r∧v={ v:=v.v }:=by
 unfold zCf at h;split at h
 ·rename_i h1 h2;obtain ⟨d,h3,h4⟩:=zhc h
  exact ⟨{ v:=.d d },by simp [h1,h2,h3,out],h4,rfl⟩
 ·rename_i h1 h2
  try rw [h1,h2]
  try dsimp only
  unfold zn8;split at h
  ·rename_i hag;obtain ⟨h3,h4⟩:=zaP h;rw [if_pos hag,if_pos h3];exact ⟨_,rfl,h4,rfl⟩
  ·rename_i hag;obtain ⟨h3,h4⟩:=zaP h;rw [if_neg hag,if_pos h3];split at h4
   ·rename_i e; rw [e]; exact ⟨_,rfl,h4,rfl⟩
   ·rename_i e; rw [e];obtain ⟨d,h5,h6⟩:=zcM h4
    exact ⟨{ v:=.d d },by simp [h5,out],h6,rfl⟩
 ·cases h
theorem zsh {P:Program} {L:Loc} {ty:TypeId} {m kx v:V} {k:Out→Option R}
  (h:(match zmt P ty with
  | some (kk,_)=>match m,zww kk kx with
   | .map g l,some n=>match L.get g l with
    | .map kk' es=>if kk'=kk then toDK L v fun x w=>if g∈w.map (·.1) then none else k { v:=.d (.tup []),wr:=w++[(g,(l,.map kk (setD n x es)))] } else none
    | _=>none
   | .vmap q l i o,some n=>match v,za9 L q with
    | .d x,some (true,T)=>zr7 L kk q l i o fun es=>sif (x.flatEl=true) (letT (setT T i o (.mp .own kk (setD n x es))) fun T'=>k { v:=.d (.tup []),wr:=[(tb q,(l,.tbl true T'))] })
    | _,_=>none
   | _,_=>none
  | none=>none)=some r):∃ out,zfW P L ty m kx v=some out∧k out=some r:=by
 unfold zfW;split at h
 ·rename_i kk et e;rw [e];split at h
  ·rename_i g l n e2;dsimp only;split at h
   ·rename_i kk' es e3;split at h
    ·rename_i hk;subst hk;obtain ⟨x,w,h1,h2⟩:=zoq h;split at h2
     ·cases h2
     ·rename_i hg;refine ⟨_,?_,h2⟩;rw [e3,h1,e2];dsimp only;exact if_pos ⟨rfl,hg⟩
    ·cases h
   ·cases h
  ·rename_i q l i o n e2;dsimp only;split at h
   ·rename_i x T e3;obtain ⟨es,h1,h2⟩:=zqw h;obtain ⟨h3,h4⟩:=zaP h2;have hk:=zeS h4;refine ⟨_,?_,hk⟩;rw [e3,h1,e2];dsimp only;exact if_pos ⟨rfl,h3⟩
   ·cases h
  ·cases h
 ·cases h
def zvB (P:Program) (L:Loc) (ty:TypeId) (op:BinOp) (a b:V):Option Out:=
 match znh P ty with
 | some k=>if zob k b=true then (match op with
  | .eql=>out ((zqU L k a).map fun r=>.d (.bool r))
  | .neq=>out ((zqU L k a).map fun r=>.d (.bool !r))
  | _=>none) else none
 | none=>match a,b with
  | .d a,.d b=>out ((abin (zrC P ty) op a b).map .d)
  | _,_=>none
theorem zGo {P:Program} {L:Loc} {ty:TypeId} {op:BinOp} {a b:V} {X:List D→List D→Option Out}:(∀ cs cs',a=.d (.agg cs)→b=.d (.agg cs')→False)→
  (match a,b with
  | .d (.agg a),.d (.agg b)=>X a b
  | a,b=>zvB P L ty op a b)=zvB P L ty op a b:=by
 intro hne;split
 ·exact (hne _ _ rfl rfl).elim
 ·rfl
theorem zAX {P:Program} {Γ:Env} {o:Oper} {ρ:Operand→V} {L:Loc} {k:Out→Option R} (h:zGm P Γ o ρ L k=some r):
  ∃ out,aop0 P Γ o ρ L=some out∧k out=some r:=by
 unfold zGm at h;dsimp only at h;split at h
 ·rename_i c a b e;unfold aop0; rw [e]; dsimp only;split at h
  ·rename_i b' hb;rw [hb];exact ⟨_,rfl,zvx h⟩
  ·cases h
 ·rename_i ty ps e;split at h
  ·exact zmg h
  ·rename_i hd;unfold aop0; rw [e]; dsimp only;obtain ⟨h1,h2⟩:=zqx h;unfold zzo;split at h2
   ·rename_i zs pl e1 e2;rw [e1,e2];dsimp only;rw [hd];dsimp only;split at h2
    ·rename_i x e3;refine ⟨_,?_,h2⟩
     have:((ps.toList.map fun (i,x)=>(i,(ρ x).unp)).all fun p=>zes L p.2)=true:=by
      rw [List.all_map] at h1;exact h1
     rw [if_pos this,e3]; rfl
    ·cases h2
   ·cases h2
 ·rename_i ty n ps e;unfold aop0; rw [e]; dsimp only;obtain ⟨ds,w,h1,h2⟩:=zup h;split at h2
  ·rename_i sz h3;obtain ⟨hc,hk⟩:=zdB h2
   exact ⟨_,by unfold zjx; rw [h3,h1]; dsimp only; rw [if_pos hc],hk⟩
  ·cases h2
 ·rename_i ty x e;split at h
  ·exact zmg h
  ·exact zmg h
  ·rename_i hn1 hn2;split at h
   ·rename_i hone;obtain ⟨h1,h2⟩:=zht h;unfold aop0; rw [e]; dsimp only;refine ⟨_,?_,h2⟩;generalize (ρ x).unp=v at*;have hc:v.one=true∧zes L v=true:=⟨hone,h1⟩
    cases v<;>first | exact (hn1 _ rfl).elim | exact (hn2 _ _ _ rfl).elim | (dsimp only; rw [if_pos hc])
   ·cases h
 ·rename_i ty a e;unfold aop0; rw [e]; dsimp only;obtain ⟨v,h1,h2⟩:=zur h
  exact ⟨_,by rw [h1]; rfl,h2⟩
 ·rename_i ty a x e;unfold aop0; rw [e]; dsimp only;obtain ⟨h1,h2⟩:=zht h;rw [if_pos h1];exact zyw (zCh h2)
 ·rename_i op ty x y z e;split at h
  ·exact zmg h
  ·rename_i hne
   have key:aop0 P Γ o ρ L=zvB P L ty op (ρ x) (ρ y):=by
    unfold aop0; rw [e];exact zGo hne
   rw [key];unfold zvB;split at h
   ·rename_i q e1
    try rw [e1]
    try dsimp only
    split at h
    ·rename_i hc;rw [if_pos hc];split at h
     ·obtain ⟨b,h1,h2⟩:=zus h
      exact ⟨_,by (try dsimp only); rw [h1]; rfl,h2⟩
     ·obtain ⟨b,h1,h2⟩:=zus h
      exact ⟨_,by (try dsimp only); rw [h1]; rfl,h2⟩
     ·cases h
    ·cases h
   ·rename_i e1
    try rw [e1]
    try dsimp only
    split at h
    ·rename_i a b e2 e3
     try rw [e2,e3]
     obtain ⟨d,h1,h2⟩:=zCj h
     exact ⟨_,by (try dsimp only); rw [h1]; rfl,h2⟩
    ·cases h
 ·rename_i src dst x e;unfold aop0; rw [e]; dsimp only;split at h
  ·rename_i kk n e3;rw [e3];split at h
   ·rename_i s q e1 e2;rw [zaF] at h
    exact ⟨_,by dsimp only; rw [e1,e2],h⟩
   ·cases h
  ·rename_i hni;split at h
   ·rename_i hc;obtain ⟨l,h1,h2⟩:=ziU h;obtain ⟨h3,h4⟩:=zaP h2;refine ⟨_,?_,h4⟩;split
    ·rename_i e3; exact (hni _ _ e3).elim
    ·rw [if_pos hc,h1]; exact if_pos h3
   ·cases h
 ·rename_i ty n c e;unfold aop0; rw [e]; dsimp only;unfold zl7;split at h
  ·rename_i et n' c' e1 e2 e3;rw [e1,e2,e3];dsimp only;split at h
   ·rename_i z sz i z1 z2 z3;rw [z1,z2,z3];obtain ⟨hc,hk⟩:=zoo h
    exact ⟨_,by dsimp only; rw [if_pos hc],hk⟩
   ·cases h
  ·cases h
 ·rename_i ty x lo hi mx e;unfold aop0; rw [e]; dsimp only;obtain ⟨v,h1,h2⟩:=zyx h
  exact ⟨_,by rw [h1]; rfl,h2⟩
 ·rename_i s x f e;unfold aop0; rw [e]; dsimp only;obtain ⟨h1,h2⟩:=zjE h;obtain ⟨v,h3,h4⟩:=zCg h2;rw [if_pos h1,h3];exact ⟨_,rfl,h4⟩
 ·rename_i s x f e;unfold aop0; rw [e]; dsimp only;obtain ⟨v,h1,h2,h3⟩:=zyz h;refine ⟨v,h1,?_⟩;rw [h3]; exact h2
 ·rename_i ty x i e;unfold aop0; rw [e]; dsimp only;obtain ⟨hp,h0⟩:=zjE h;rw [if_pos hp];obtain ⟨v,h1,h2⟩:=zse h0
  exact ⟨_,by rw [h1]; rfl,h2⟩
 ·rename_i ty x i e;unfold aop0; rw [e]; dsimp only;split at h
  ·rename_i cs kk n e1 e2;rw [e1,e2];dsimp only;split at h
   ·rename_i q sz ag e3;rw [e3];obtain ⟨hc,h1⟩:=zcK h;obtain ⟨d,h2,h3⟩:=zhc h1
    exact ⟨_,by dsimp only; rw [if_pos hc,h2]; rfl,h3⟩
   ·cases h
  ·cases h
 ·rename_i ty m x ok e;unfold aop0; rw [e]; dsimp only;unfold zu4;split at h
  ·rename_i kk et e1;rw [e1];split at h
   ·rename_i z n e5 e6;obtain ⟨es,h1,h2⟩:=zzS h;rw [h1];dsimp only;rw [e5,e6];dsimp only;have h:=zeb h2;simp only [zk4,hasD] at h;rw [if_pos rfl]
    cases hf:zhh n es with
    | some y=>rw [hf] at h; exact ⟨_,rfl,h⟩
    | none=>rw [hf] at h; exact ⟨_,rfl,h⟩
   ·cases h
  ·cases h
 ·rename_i ty m kx v e
  have hred:aop0 P Γ o ρ L=zfW P L ty (ρ m) (ρ kx) (ρ v).unp:=by unfold aop0; rw [e]
  rw [hred];exact zsh h
 ·rename_i ty m kx v e
  have hred:aop0 P Γ o ρ L=zfW P L ty (ρ m) (ρ kx) (ρ v).unp:=by unfold aop0; rw [e]
  rw [hred];exact zsh h
 ·rename_i x e;split at h
  ·rename_i q y e1;obtain ⟨i,h1,h2⟩:=zop h;subst h1;unfold aop0; rw [e]; dsimp only;rw [e1]
   exact ⟨_,by dsimp only; rw [if_pos ⟨rfl,rfl⟩],h2⟩
  ·rename_i g n i j e1;obtain ⟨h1,h2⟩:=zjE h;unfold aop0; rw [e]; dsimp only;rw [e1]
   exact ⟨_,by dsimp only; rw [if_pos h1],h2⟩
  ·rename_i e1;obtain ⟨h1,h2⟩:=zjE h;unfold aop0; rw [e]; dsimp only;rw [e1]
   exact ⟨_,by dsimp only; rw [if_pos h1],h2⟩
  ·exact zmg h
 ·rename_i args argTypes _ e;unfold aop0; rw [e]; dsimp only;split at h
  ·rename_i x ty e1 e2;rw [e1,e2];dsimp only;split at h
   ·rename_i kk et e3;obtain ⟨es,h1,h2⟩:=zzS h;refine ⟨_,?_,h2⟩
    have:alen P L ty (ρ x)=some es.length:=by
     have hs:(zmt P ty).isSome=true:=by rw [e3]; rfl
     generalize ρ x=v at*;unfold alen;split
     ·cases h1
     ·rw [if_pos hs,h1]; rfl
     ·rw [if_pos hs,h1]; rfl
     ·rw [if_pos hs,h1]; rfl
     ·rename_i n1 n2 n3 n4;exfalso
      cases v with
      | d d=>cases d<;>first | exact n2 _ _ _ rfl | cases h1
      | map g n=>exact n3 _ _ rfl
      | vmap q n i o=>exact n4 _ _ _ _ rfl
      | _=>cases h1
    rw [this]; rfl
   ·split at h
    ·rename_i s e3;rw [e3];split at h
     ·rename_i hs
      exact ⟨_,by simp [alen,hs],h⟩
     ·cases h
    ·rename_i hns;split at h
     ·rename_i hs;obtain ⟨n,h1,h2⟩:=zsb h;refine ⟨_,?_,h2⟩
      have:alen P L ty (ρ x)=some n:=by
       generalize ρ x=v at*;unfold alen;split
       ·exact (hns _ rfl).elim
       ·cases h1
       ·cases h1
       ·cases h1
       ·rw [if_pos hs]; exact h1
      rw [this]; rfl
     ·cases h
  ·cases h
 ·rename_i args _ _ e;unfold aop0; rw [e]; dsimp only;split at h
  ·rename_i a b e1;rw [zaF] at h;rw [e1]; exact ⟨_,rfl,h⟩
  ·cases h
 ·rename_i args _ _ e;unfold aop0; rw [e]; dsimp only;split at h
  ·rename_i a b e1;rw [zaF] at h;rw [e1]; exact ⟨_,rfl,h⟩
  ·cases h
 ·rename_i args argTypes _ e;unfold aop0; rw [e]; dsimp only;split at h
  ·rename_i s x ty ty2 e1 e2;rw [e1,e2];dsimp only;split at h
   ·rename_i hs;rw [if_pos hs];exact zxd h
   ·cases h
  ·cases h
 ·rename_i args argTypes _ e;unfold aop0; rw [e]; dsimp only;split at h
  ·rename_i s x ty tys e1 e2;rw [e1,e2];exact zAT h
  ·cases h
 ·rename_i f args _ e;unfold aop0; rw [e]; dsimp only;exact zAW h
 ·rename_i arr x e;unfold aop0; rw [e]; dsimp only;split at h
  ·rename_i t l e1;rw [e1];dsimp only;split at h
   ·rename_i n et e2;obtain ⟨hc,hk⟩:=zcL h;rw [e2];exact ⟨_,if_pos hc,hk⟩
   ·cases h
  ·cases h
 ·exact zmg h
theorem zCl {P:Program} {Γ:Env} {o:Oper} {ρ:Operand→V} {L:Loc} {k:Out→Option R} (h:aopK P Γ o ρ L k=some r):
  ∃ out,aop P Γ o ρ L=some out∧k out=some r:=by
 unfold aopK at h;obtain ⟨out,h1,h2⟩:=zAX h
 exact ⟨_,by unfold aop; rw [h1]; rfl,h2⟩
end
end Wf

namespace Wf
open Go Go.RowKit
inductive SS where
 | dead
 | val (s:Sh)
 | own (sz:Nat)
 | box (ag:Bool) (ls:List Lf)
 | map (k:MK)
 | same (j:Nat)
 | fnc (f:FuncId)
 | ptr (k:Nat)
 | view (k o:Nat)
 | vmp (k o:Nat)
 | vbx (ag:Bool) (ls:List Lf) (k sz:Nat)
 deriving DecidableEq,Inhabited
@[reducible] def SST:List SS→Type
 | []=>Unit
 | .dead::r=>SST r
 | .val s::r=>s.T×SST r
 | .own _::r=>List D×SST r
 | .box _ ls::r=>LfT ls×SST r
 | .map _::r=>List (Int×D)×SST r
 | .same _::r=>SST r
 | .fnc _::r=>SST r
 | .ptr _::r=>D×SST r
 | .view _ _::r=>(Nat×Nat×Nat)×SST r
 | .vmp _ _::r=>Nat×SST r
 | .vbx _ ls _ _::r=>(LfT ls×List D)×SST r
@[reducible] def TbT:List (Nat×Bool)→Type
 | []=>Unit
 | _::r=>Tb×TbT r
def base:Nat:=50000
def zcx:Nat:=70000
def zk7:(i j:Nat)→(ss:List SS)→SST ss→V
 | _,_,[],_=>.d .undef
 | i,j,.dead::r,x=>zk7 (i+1) j r x
 | i,j,.same _::r,x=>zk7 (i+1) j r x
 | i,j,.fnc _::r,x=>zk7 (i+1) j r x
 | i,j,.val _::r,x=>zk7 (i+1) j r x.2
 | i,j,.map _::r,x=>zk7 (i+1) j r x.2
 | i,j,.ptr _::r,x=>zk7 (i+1) j r x.2
 | i,j,.view _ _::r,x=>zk7 (i+1) j r x.2
 | i,j,.vmp _ _::r,x=>zk7 (i+1) j r x.2
 | i,j,.vbx _ _ _ _::r,x=>zk7 (i+1) j r x.2
 | i,j,.box _ _::r,x=>if i=j then .ptr (base+i) 1 0 else zk7 (i+1) j r x.2
 | i,j,.own _::r,x=>if i=j then .ref (base+i) 1 0 x.1.length else zk7 (i+1) j r x.2
def zcm (sj:Nat→V):(i:Nat)→(ss:List SS)→SST ss→List (V×HObj)
 | _,[],_=>[]
 | i,.dead::r,x=>(.d .undef,.dead)::zcm sj (i+1) r x
 | i,.val s::r,x=>(.d (s.mk x.1),.dead)::zcm sj (i+1) r x.2
 | i,.own sz::r,x=>(.ref (base+i) 1 0 x.1.length,.arr sz x.1 true)::zcm sj (i+1) r x.2
 | i,.box ag ls::r,x=>(.ptr (base+i) 1 0,.box ag (zhq ls x.1))::zcm sj (i+1) r x.2
 | i,.map kk::r,x=>(.map (base+i) 1,.map kk x.1)::zcm sj (i+1) r x.2
 | i,.same j::r,x=>(sj j,.dead)::zcm sj (i+1) r x
 | i,.fnc f::r,x=>(.clo f [] [],.dead)::zcm sj (i+1) r x
 | i,.ptr k::r,x=>(.p k x.1,.dead)::zcm sj (i+1) r x.2
 | i,.view k o::r,x=>(.vref k 1 x.1.1 o x.1.2.1 x.1.2.2,.dead)::zcm sj (i+1) r x.2
 | i,.vmp k o::r,x=>(.vmap k 1 x.1 o,.dead)::zcm sj (i+1) r x.2
 | i,.vbx ag ls k sz::r,x=>(.ptr (base+i) 1 0,.vbox ag (zhq ls x.1.1) [k] [.ref (zcx+i) 1 0 x.1.2.length])::zcm sj (i+1) r x.2
def ziV:(ss:List SS)→SST ss→List HObj
 | [],_=>[]
 | .dead::r,x=>.dead::ziV r x
 | .val _::r,x=>.dead::ziV r x.2
 | .own _::r,x=>.dead::ziV r x.2
 | .box _ _::r,x=>.dead::ziV r x.2
 | .map _::r,x=>.dead::ziV r x.2
 | .same _::r,x=>.dead::ziV r x
 | .fnc _::r,x=>.dead::ziV r x
 | .ptr _::r,x=>.dead::ziV r x.2
 | .view _ _::r,x=>.dead::ziV r x.2
 | .vmp _ _::r,x=>.dead::ziV r x.2
 | .vbx _ _ _ sz::r,x=>.arr sz x.1.2 true::ziV r x.2
def zim (es:List (V×HObj)) (fs:List HObj):Loc:=fun g=>
 if base≤g∧g < zcx then (match es[g - base]? with
 | some (_,.dead)=>(0,.dead)
 | some (_,o)=>(1,o)
 | none=>(0,.dead))
 else if zcx≤g∧g < 90000 then (match fs[g - zcx]? with
 | some .dead=>(0,.dead)
 | some o=>(1,o)
 | none=>(0,.dead)) else (0,.dead)
def zqC (L:Loc):(tks:List (Nat×Bool))→TbT tks→Loc
 | [],_=>L
 | (k,w)::r,Ts=>(zqC L r Ts.2).set (tb k) (1,.tbl w Ts.1)
def stOf (es:List (V×HObj)) (fs:List HObj) (n:Nat) (tks:List (Nat×Bool)) (Ts:TbT tks):St:={ slots:=es.map (·.1)++List.replicate (n - es.length) (.d .undef),L:=zqC (zim es fs) tks Ts }
def SSJ (tks:List (Nat×Bool)) (ss:List SS) (n:Nat) (x:SST ss) (Ts:TbT tks):St:=stOf (zcm (fun j=>zk7 0 j ss x) 0 ss x) (ziV ss x) n tks Ts
section
variable {R:Type}
def coGo (tq:List Nat) (L:Loc) (all:List V) (sh:List SS):(ss:List SS)→List V→(SST ss→List (Option Nat)→List (Option Nat)→Option R)→Option R
 | [],_,k=>k () [] []
 | .dead::r,_::vs,k=>coGo tq L all sh r vs fun x ks qs=>k x (none::ks) (none::qs)
 | .val s::r,v::vs,k=>match v with
  | .d d=>s.get d fun y=>coGo tq L all sh r vs fun x ks qs=>k (y,x) (none::ks) (none::qs)
  | _=>none
 | .own sz::r,v::vs,k=>match v with
  | .ref g n off len=>match off,L.get g n with
   | 0,.arr sz' els true=>if sz'=sz∧g < 90000 then sif (len=els.length) (coGo tq L all sh r vs fun x ks qs=>k (els,x) (some g::ks) (none::qs)) else none
   | _,_=>none
  | .d (.sl .full [])=>coGo tq L all sh r vs fun x ks qs=>k ([],x) (none::ks) (none::qs)
  | .d (.sl .nil [])=>coGo tq L all sh r vs fun x ks qs=>k ([],x) (none::ks) (none::qs)
  | _=>none
 | .box ag ls::r,v::vs,k=>match v with
  | .ptr g n off=>match off,L.get g n with
   | 0,.box ag' ds=>if ag'=ag∧g < 90000 then zaz ls ds fun y=>coGo tq L all sh r vs fun x ks qs=>k (y,x) (some g::ks) (none::qs) else none
   | _,_=>none
  | _=>none
 | .map kk::r,v::vs,k=>match v with
  | .map g n=>match L.get g n with
   | .map kk' es=>if kk'=kk∧g < 90000 then coGo tq L all sh r vs fun x ks qs=>k (es,x) (some g::ks) (none::qs) else none
   | _=>none
  | _=>none
 | .same j::r,v::vs,k=>match v,all[j]?,sh[j]? with
  | .ref g n off len,some (.ref g' n' off' len'),some (.own _)=>if g'=g∧n'=n∧off'=off then sif (len'=len) (coGo tq L all sh r vs fun x ks qs=>k x (none::ks) (none::qs)) else none
  | .ptr g n off,some (.ptr g' n' off'),some (.box _ _)=>if g'=g∧n'=n∧off'=off then coGo tq L all sh r vs fun x ks qs=>k x (none::ks) (none::qs) else none
  | _,_,_=>none
 | .fnc f::r,v::vs,k=>match v with
  | .clo f' [] []=>if f'=f then coGo tq L all sh r vs fun x ks qs=>k x (none::ks) (none::qs) else none
  | .d (.fn f' [] [])=>if f'=f then coGo tq L all sh r vs fun x ks qs=>k x (none::ks) (none::qs) else none
  | _=>none
 | .ptr _::r,v::vs,k=>match v with
  | .p _ y=>coGo tq L all sh r vs fun x ks qs=>k (y,x) (none::ks) (none::qs)
  | .d y=>coGo tq L all sh r vs fun x ks qs=>k (y,x) (none::ks) (none::qs)
  | _=>none
 | .view q o::r,v::vs,k=>match v with
  | .vref q' n i o' lo len=>if q'=q∧o'=o∧n=(L (tb q)).1∧q∈tq then coGo tq L all sh r vs fun x ks qs=>k ((i,lo,len),x) (none::ks) (none::qs) else none
  | _=>none
 | .vmp q o::r,v::vs,k=>match v with
  | .vmap q' n i o'=>if q'=q∧o'=o∧n=(L (tb q)).1∧q∈tq then coGo tq L all sh r vs fun x ks qs=>k (i,x) (none::ks) (none::qs) else none
  | _=>none
 | .vbx ag ls o sz::r,v::vs,k=>match v with
  | .ptr g n off=>match off,L.get g n with
   | 0,.vbox ag' ds [o'] [.ref g2 n2 off2 len]=>match off2,L.get g2 n2 with
    | 0,.arr sz' els true=>if ag'=ag∧o'=o∧sz'=sz∧g < 90000∧g2 < 90000 then sif (len=els.length) (zaz ls (ds.set o (.sl .nil [])) fun y=>coGo tq L all sh r vs fun x ks qs=>k ((y,els),x) (some g::ks) (some g2::qs)) else none
    | _,_=>none
   | 0,.box ag' ds=>if ag'=ag∧g < 90000 then (match ds[o]? with
    | some (.sl .nil [])=>zaz ls (ds.set o (.sl .nil [])) fun y=>coGo tq L all sh r vs fun x ks qs=>k ((y,[]),x) (some g::ks) (none::qs)
    | some (.sl .full [])=>zaz ls (ds.set o (.sl .nil [])) fun y=>coGo tq L all sh r vs fun x ks qs=>k ((y,[]),x) (some g::ks) (none::qs)
    | _=>none) else none
   | _,_=>none
  | _=>none
 | _::_,[],_=>none
def zEa (L:Loc):(tks:List (Nat×Bool))→(TbT tks→Option R)→Option R
 | [],k=>k ()
 | (q,w)::r,k=>match za9 L q with
  | some (w',T)=>if w'=w then zEa L r fun Ts=>k (T,Ts) else none
  | none=>none
def co (tks:List (Nat×Bool)) (ss:List SS) (s:St) (k:SST ss→TbT tks→Option R):Option R:=
 if ss.length≤s.slots.length∧ss.length≤1000∧(tks.map (·.1)).Nodup then coGo (tks.map (·.1)) s.L s.slots ss ss s.slots fun x ks qs=>if zh6 (ks++qs) then zEa s.L tks fun Ts=>k x Ts else none else none
end
inductive Ext (tq:List Nat) (L:Loc) (all:List V) (sh:List SS) (sj:Nat→V) (id:Nat):V→Option Nat→V→HObj→Option Nat→HObj→Prop where
 | drop (v):Ext tq L all sh sj id v none (.d .undef) .dead none .dead
 | keep (d):Ext tq L all sh sj id (.d d) none (.d d) .dead none .dead
 | own (g n sz els):g < 90000→L.get g n=.arr sz els true→Ext tq L all sh sj id (.ref g n 0 els.length) (some g) (.ref id 1 0 els.length) (.arr sz els true) none .dead
 | nil (sz t):(t=.full∨t=.nil)→Ext tq L all sh sj id (.d (.sl t [])) none (.ref id 1 0 0) (.arr sz [] true) none .dead
 | box (g n ag ds):g < 90000→L.get g n=.box ag ds→Ext tq L all sh sj id (.ptr g n 0) (some g) (.ptr id 1 0) (.box ag ds) none .dead
 | map (g n kk es):g < 90000→L.get g n=.map kk es→Ext tq L all sh sj id (.map g n) (some g) (.map id 1) (.map kk es) none .dead
 | sameR (j g n off len):all[j]? =some (.ref g n off len)→(∃ z,sh[j]? =some (.own z))→Ext tq L all sh sj id (.ref g n off len) none (sj j) .dead none .dead
 | sameP (j g n off):all[j]? =some (.ptr g n off)→(∃ a l,sh[j]? =some (.box a l))→Ext tq L all sh sj id (.ptr g n off) none (sj j) .dead none .dead
 | ptr (k y v):((∃ k',v=.p k' y)∨v=.d y)→Ext tq L all sh sj id v none (.p k y) .dead none .dead
 | view (q n i o lo len):n=(L (tb q)).1→q∈tq→Ext tq L all sh sj id (.vref q n i o lo len) none (.vref q 1 i o lo len) .dead none .dead
 | vmp (q n i o):n=(L (tb q)).1→q∈tq→Ext tq L all sh sj id (.vmap q n i o) none (.vmap q 1 i o) .dead none .dead
 | vbx (g n ag ds o g2 n2 sz els):g < 90000→g2 < 90000→L.get g n=.vbox ag ds [o] [.ref g2 n2 0 els.length]→L.get g2 n2=.arr sz els true→
   Ext tq L all sh sj id (.ptr g n 0) (some g) (.ptr id 1 0) (.vbox ag (ds.set o (.sl .nil [])) [o] [.ref (id+20000) 1 0 els.length]) (some g2) (.arr sz els true)
 | vbx0 (g n ag ds o sz t):(t=.full∨t=.nil)→g < 90000→L.get g n=.box ag ds→ds[o]? =some (.sl t [])→
   Ext tq L all sh sj id (.ptr g n 0) (some g) (.ptr id 1 0) (.vbox ag (ds.set o (.sl .nil [])) [o] [.ref (id+20000) 1 0 0]) none (.arr sz [] true)
 | clo (f v):(v=.clo f [] []∨v=.d (.fn f [] []))→Ext tq L all sh sj id v none (.clo f [] []) .dead none .dead
theorem getE {α:Type} {a:α} {l:List α} {i:Nat}:(a::l)[i+1]? =l[i]? :=by simp
theorem zcZ {sj:Nat→V}:∀ (ss:List SS) (i:Nat) (x:SST ss),(zcm sj i ss x).length=ss.length
 | [],_,_=>rfl
 | .dead::r,i,x=>by simp only [zcm,List.length_cons,zcZ r (i+1) x]
 | .val s::r,i,x=>by simp only [zcm,List.length_cons,zcZ r (i+1) x.2]
 | .own sz::r,i,x=>by simp only [zcm,List.length_cons,zcZ r (i+1) x.2]
 | .box ag ls::r,i,x=>by simp only [zcm,List.length_cons,zcZ r (i+1) x.2]
 | .map kk::r,i,x=>by simp only [zcm,List.length_cons,zcZ r (i+1) x.2]
 | .same j::r,i,x=>by simp only [zcm,List.length_cons,zcZ r (i+1) x]
 | .fnc f::r,i,x=>by simp only [zcm,List.length_cons,zcZ r (i+1) x]
 | .ptr k::r,i,x=>by simp only [zcm,List.length_cons,zcZ r (i+1) x.2]
 | .view k o::r,i,x=>by simp only [zcm,List.length_cons,zcZ r (i+1) x.2]
 | .vmp k o::r,i,x=>by simp only [zcm,List.length_cons,zcZ r (i+1) x.2]
 | .vbx ag ls k sz::r,i,x=>by simp only [zcm,List.length_cons,zcZ r (i+1) x.2]
theorem zdW:∀ (ss:List SS) (x:SST ss),(ziV ss x).length=ss.length
 | [],_=>rfl
 | .dead::r,x=>congrArg (· +1) (zdW r x)
 | .val _::r,x=>congrArg (· +1) (zdW r x.2)
 | .own _::r,x=>congrArg (· +1) (zdW r x.2)
 | .box _ _::r,x=>congrArg (· +1) (zdW r x.2)
 | .map _::r,x=>congrArg (· +1) (zdW r x.2)
 | .same _::r,x=>congrArg (· +1) (zdW r x)
 | .fnc _::r,x=>congrArg (· +1) (zdW r x)
 | .ptr _::r,x=>congrArg (· +1) (zdW r x.2)
 | .view _ _::r,x=>congrArg (· +1) (zdW r x.2)
 | .vmp _ _::r,x=>congrArg (· +1) (zdW r x.2)
 | .vbx _ _ _ _::r,x=>congrArg (· +1) (zdW r x.2)
theorem zpA {sj:Nat→V}:∀ (ss:List SS) (i j:Nat) (x:SST ss),((∃ z,ss[j]? =some (.own z))∨∃ a l,ss[j]? =some (.box a l))→
  ∃ e,(zcm sj i ss x)[j]? =some e∧e.2≠.dead∧e.1=zk7 i (i+j) ss x
 | [],i,j,x,h=>by simp at h
 | sh::r,i,0,x,h=>by
  rcases h with ⟨z,h⟩ | ⟨a,l,h⟩<;>injection h with h<;>subst h
  ·exact ⟨_,rfl,by simp,by simp [zk7]⟩
  ·exact ⟨_,rfl,by simp,by simp [zk7]⟩
 | sh::r,i,j+1,x,h=>by
  have hij:i+(j+1)=(i+1)+j:=by omega
  have hne:i≠i+(j+1):=by omega
  simp only [getE] at h;cases sh<;>simp only [zcm,getE,zk7,if_neg hne]<;>rw [hij]<;>exact zpA r (i+1) j _ h
section
variable {R:Type} {r:R} {tq:List Nat} {L:Loc} {all:List V} {sh:List SS} {sj:Nat→V}
theorem zcI:∀ (ss:List SS) (i:Nat) (vs:List V) (k:SST ss→List (Option Nat)→List (Option Nat)→Option R),ss.length≤vs.length→coGo tq L all sh ss vs k=some r→
  ∃ x ks qs,k x ks qs=some r∧(ks.length=ss.length∧qs.length=ss.length)∧∀ sj:(Nat→V),∀ (j:Nat) (v:V),vs[j]? =some v→j < ss.length→∃ e q q2 o2,(zcm sj i ss x)[j]? =some e∧ks[j]? =some q∧qs[j]? =some q2∧(ziV ss x)[j]? =some o2∧Ext tq L all sh sj (base+(i+j)) v q e.1 e.2 q2 o2
 | [],i,vs,k,_,h=>⟨(),[],[],h,⟨rfl,rfl⟩,fun sj j v _ hj=>absurd hj (by simp)⟩
 | _::_,i,[],k,hl,_=>absurd hl (by simp)
 | sh0::ss,i,v::vs,k,hl,h=>by
  have hl':ss.length≤vs.length:=by simpa using hl
  have step:∀ {x':SST ss} {ks qs:List (Option Nat)} {x:SST (sh0::ss)} {q q2:Option Nat} {o2:HObj} {e:(Nat→V)→V×HObj},(ks.length=ss.length∧qs.length=ss.length)→
    (∀ sj:(Nat→V),∀ (j:Nat) (v:V),vs[j]? =some v→j < ss.length→∃ e q q2 o2,(zcm sj (i+1) ss x')[j]? =some e∧ks[j]? =some q∧qs[j]? =some q2∧(ziV ss x')[j]? =some o2∧Ext tq L all sh sj (base+(i+1+j)) v q e.1 e.2 q2 o2)→
    (∀ sj,zcm sj i (sh0::ss) x=e sj::zcm sj (i+1) ss x')→ziV (sh0::ss) x=o2::ziV ss x'→(∀ sj,Ext tq L all sh sj (base+i) v q (e sj).1 (e sj).2 q2 o2)→
    ((q::ks).length=(sh0::ss).length∧(q2::qs).length=(sh0::ss).length)∧∀ sj:(Nat→V),∀ (j:Nat) (w:V),(v::vs)[j]? =some w→j < (sh0::ss).length→
     ∃ e q' q2' o2',(zcm sj i (sh0::ss) x)[j]? =some e∧(q::ks)[j]? =some q'∧(q2::qs)[j]? =some q2'∧(ziV (sh0::ss) x)[j]? =some o2'∧Ext tq L all sh sj (base+(i+j)) w q' e.1 e.2 q2' o2':=by
   intro x' ks qs x q q2 o2 e h1 h2 h3 h3' h4
   refine ⟨by simp [h1.1,h1.2],fun sj j w hw hj=>?_⟩
   rw [h3,h3']
   cases j with
   | zero=>simp at hw; subst hw; exact ⟨_,_,_,_,rfl,rfl,rfl,rfl,h4 sj⟩
   | succ j=>
    simp only [getE] at hw
    obtain ⟨e',q',q2',o2',k1,k2,k3,k4,k5⟩:=h2 sj j w hw (by simpa using hj)
    exact ⟨e',q',q2',o2',by simpa using k1,by simpa using k2,by simpa using k3,by simpa using k4,by rw [show i+(j+1)=i+1+j by omega]; exact k5⟩
  cases sh0 with
  | dead=>
   obtain ⟨x,ks,qs,h1,h2,h3⟩:=zcI ss (i+1) vs (fun x ks qs=>k x (none::ks) (none::qs)) hl' h
   exact ⟨x,none::ks,none::qs,h1,step (e:=fun _=>(.d .undef,.dead)) h2 h3 (fun _=>rfl) rfl (fun _=>.drop _)⟩
  | val s=>
   simp only [coGo] at h;split at h
   ·rename_i d;obtain ⟨y,e,h⟩:=Sh.get_some h
    obtain ⟨x,ks,qs,h1,h2,h3⟩:=zcI ss (i+1) vs (fun x ks qs=>k (y,x) (none::ks) (none::qs)) hl' h
    subst e
    exact ⟨(y,x),none::ks,none::qs,h1,step (e:=fun _=>(.d (s.mk y),.dead)) h2 h3 (fun _=>rfl) rfl (fun _=>.keep _)⟩
   ·cases h
  | own sz=>
   simp only [coGo] at h;split at h
   ·rename_i g n off len;split at h
    ·rename_i sz' els hL;split at h
     ·rename_i hsz;obtain ⟨hsz,hg⟩:=hsz; subst hsz;obtain ⟨hlen,h4⟩:=zaP h;subst hlen
      obtain ⟨x,ks,qs,h1,h2,h3⟩:=zcI ss (i+1) vs (fun x ks qs=>k (els,x) (some g::ks) (none::qs)) hl' h4
      exact ⟨(els,x),some g::ks,none::qs,h1,step (e:=fun _=>(.ref (base+i) 1 0 els.length,.arr sz' els true)) h2 h3 (fun _=>rfl) rfl (fun _=>.own _ _ _ _ hg hL)⟩
     ·cases h
    ·cases h
   ·obtain ⟨x,ks,qs,h1,h2,h3⟩:=zcI ss (i+1) vs (fun x ks qs=>k ([],x) (none::ks) (none::qs)) hl' h
    exact ⟨([],x),none::ks,none::qs,h1,step (e:=fun _=>(.ref (base+i) 1 0 0,.arr sz [] true)) h2 h3 (fun _=>rfl) rfl (fun _=>.nil _ _ (.inl rfl))⟩
   ·obtain ⟨x,ks,qs,h1,h2,h3⟩:=zcI ss (i+1) vs (fun x ks qs=>k ([],x) (none::ks) (none::qs)) hl' h
    exact ⟨([],x),none::ks,none::qs,h1,step (e:=fun _=>(.ref (base+i) 1 0 0,.arr sz [] true)) h2 h3 (fun _=>rfl) rfl (fun _=>.nil _ _ (.inr rfl))⟩
   ·cases h
  | box ag ls=>
   simp only [coGo] at h;split at h
   ·rename_i g n off;split at h
    ·rename_i ag' ds hL;split at h
     ·rename_i hag;obtain ⟨hag,hg⟩:=hag; subst hag;obtain ⟨y,e,h⟩:=zev h
      obtain ⟨x,ks,qs,h1,h2,h3⟩:=zcI ss (i+1) vs (fun x ks qs=>k (y,x) (some g::ks) (none::qs)) hl' h
      subst e
      exact ⟨(y,x),some g::ks,none::qs,h1,step (e:=fun _=>(.ptr (base+i) 1 0,.box ag' (zhq ls y))) h2 h3 (fun _=>rfl) rfl (fun _=>.box _ _ _ _ hg hL)⟩
     ·cases h
    ·cases h
   ·cases h
  | map kk=>
   simp only [coGo] at h;split at h
   ·rename_i g n;split at h
    ·rename_i kk' es hL;split at h
     ·rename_i hk;obtain ⟨hk,hg⟩:=hk; subst hk
      obtain ⟨x,ks,qs,h1,h2,h3⟩:=zcI ss (i+1) vs (fun x ks qs=>k (es,x) (some g::ks) (none::qs)) hl' h
      exact ⟨(es,x),some g::ks,none::qs,h1,step (e:=fun _=>(.map (base+i) 1,.map kk' es)) h2 h3 (fun _=>rfl) rfl (fun _=>.map _ _ _ _ hg hL)⟩
     ·cases h
    ·cases h
   ·cases h
  | same j=>
   simp only [coGo] at h;split at h
   ·rename_i g n off len g' n' off' len' z e1 e2;split at h
    ·rename_i hc;obtain ⟨rfl,rfl,rfl⟩:=hc;obtain ⟨hlen,h4⟩:=zaP h;subst hlen
     obtain ⟨x,ks,qs,h1,h2,h3⟩:=zcI ss (i+1) vs (fun x ks qs=>k x (none::ks) (none::qs)) hl' h4
     exact ⟨x,none::ks,none::qs,h1,step (e:=fun sj=>(sj j,.dead)) h2 h3 (fun _=>rfl) rfl (fun _=>.sameR _ _ _ _ _ e1 ⟨_,e2⟩)⟩
    ·cases h
   ·rename_i g n off g' n' off' a l e1 e2;split at h
    ·rename_i hc;obtain ⟨rfl,rfl,rfl⟩:=hc
     obtain ⟨x,ks,qs,h1,h2,h3⟩:=zcI ss (i+1) vs (fun x ks qs=>k x (none::ks) (none::qs)) hl' h
     exact ⟨x,none::ks,none::qs,h1,step (e:=fun sj=>(sj j,.dead)) h2 h3 (fun _=>rfl) rfl (fun _=>.sameP _ _ _ _ e1 ⟨_,_,e2⟩)⟩
    ·cases h
   ·cases h
  | fnc f=>
   simp only [coGo] at h;split at h
   ·split at h
    ·rename_i hf; subst hf
     obtain ⟨x,ks,qs,h1,h2,h3⟩:=zcI ss (i+1) vs (fun x ks qs=>k x (none::ks) (none::qs)) hl' h
     exact ⟨x,none::ks,none::qs,h1,step (e:=fun _=>(.clo _ [] [],.dead)) h2 h3 (fun _=>rfl) rfl (fun _=>.clo _ _ (.inl rfl))⟩
    ·cases h
   ·split at h
    ·rename_i hf; subst hf
     obtain ⟨x,ks,qs,h1,h2,h3⟩:=zcI ss (i+1) vs (fun x ks qs=>k x (none::ks) (none::qs)) hl' h
     exact ⟨x,none::ks,none::qs,h1,step (e:=fun _=>(.clo _ [] [],.dead)) h2 h3 (fun _=>rfl) rfl (fun _=>.clo _ _ (.inr rfl))⟩
    ·cases h
   ·cases h
  | ptr q=>
   simp only [coGo] at h;split at h
   ·rename_i k' y
    obtain ⟨x,ks,qs,h1,h2,h3⟩:=zcI ss (i+1) vs (fun x ks qs=>k (y,x) (none::ks) (none::qs)) hl' h
    exact ⟨(y,x),none::ks,none::qs,h1,step (e:=fun _=>(.p q y,.dead)) h2 h3 (fun _=>rfl) rfl (fun _=>.ptr _ _ _ (.inl ⟨_,rfl⟩))⟩
   ·rename_i y
    obtain ⟨x,ks,qs,h1,h2,h3⟩:=zcI ss (i+1) vs (fun x ks qs=>k (y,x) (none::ks) (none::qs)) hl' h
    exact ⟨(y,x),none::ks,none::qs,h1,step (e:=fun _=>(.p q y,.dead)) h2 h3 (fun _=>rfl) rfl (fun _=>.ptr _ _ _ (.inr rfl))⟩
   ·cases h
  | view q o=>
   simp only [coGo] at h;split at h
   ·rename_i q' n i' o' lo len;split at h
    ·rename_i hc;obtain ⟨rfl,rfl,rfl,hq⟩:=hc
     obtain ⟨x,ks,qs,h1,h2,h3⟩:=zcI ss (i+1) vs (fun x ks qs=>k ((i',lo,len),x) (none::ks) (none::qs)) hl' h
     exact ⟨((i',lo,len),x),none::ks,none::qs,h1,step (e:=fun _=>(.vref _ 1 i' _ lo len,.dead)) h2 h3 (fun _=>rfl) rfl (fun _=>.view _ _ _ _ _ _ rfl hq)⟩
    ·cases h
   ·cases h
  | vmp q o=>
   simp only [coGo] at h;split at h
   ·rename_i q' n i' o';split at h
    ·rename_i hc;obtain ⟨rfl,rfl,rfl,hq⟩:=hc
     obtain ⟨x,ks,qs,h1,h2,h3⟩:=zcI ss (i+1) vs (fun x ks qs=>k (i',x) (none::ks) (none::qs)) hl' h
     exact ⟨(i',x),none::ks,none::qs,h1,step (e:=fun _=>(.vmap _ 1 i' _,.dead)) h2 h3 (fun _=>rfl) rfl (fun _=>.vmp _ _ _ _ rfl hq)⟩
    ·cases h
   ·cases h
  | vbx ag ls o sz=>
   simp only [coGo] at h;split at h
   ·rename_i g n off;split at h
    ·rename_i ag' ds o' g2 n2 off2 len hL;split at h
     ·rename_i sz' els hL2;split at h
      ·rename_i hc;obtain ⟨rfl,rfl,rfl,hg,hg2⟩:=hc;obtain ⟨hlen,h4⟩:=zaP h;subst hlen;obtain ⟨y,e,h⟩:=zev h4
       obtain ⟨x,ks,qs,h1,h2,h3⟩:=zcI ss (i+1) vs (fun x ks qs=>k ((y,els),x) (some g::ks) (some g2::qs)) hl' h
       refine ⟨((y,els),x),some g::ks,some g2::qs,h1,step (e:=fun _=>(.ptr (base+i) 1 0,.vbox _ (zhq ls y) [_] [.ref (zcx+i) 1 0 els.length])) h2 h3 (fun _=>rfl) rfl (fun sj'=>?_)⟩
       rw [←e];have:=Ext.vbx (tq:=tq) (L:=L) (all:=all) (sh:=sh) (sj:=sj') (id:=base+i) _ _ _ _ _ _ _ _ _ hg hg2 hL hL2
       rw [show base+i+20000=zcx+i by unfold base zcx; omega] at this
       exact this
      ·cases h
     ·cases h
    ·rename_i ag' ds hL;split at h
     ·rename_i hag;obtain ⟨rfl,hg⟩:=hag
      have key:∀ t:Tag,(t=.full∨t=.nil)→ds[o]? =some (.sl t [])→(zaz ls (ds.set o (.sl .nil [])) fun y=>coGo tq L all sh ss vs fun x ks qs=>k ((y,[]),x) (some g::ks) (none::qs))=some r→
        ∃ (x:SST (.vbx ag' ls o sz::ss)) (ks qs:List (Option Nat)),k x ks qs=some r∧(ks.length=(SS.vbx ag' ls o sz::ss).length∧qs.length=(SS.vbx ag' ls o sz::ss).length)∧∀ sj:(Nat→V),∀ (j:Nat) (w:V),(V.ptr g n 0::vs)[j]? =some w→j < (SS.vbx ag' ls o sz::ss).length→
         ∃ e q' q2' o2',(zcm sj i (SS.vbx ag' ls o sz::ss) x)[j]? =some e∧ks[j]? =some q'∧qs[j]? =some q2'∧(ziV (SS.vbx ag' ls o sz::ss) x)[j]? =some o2'∧Ext tq L all sh sj (base+(i+j)) w q' e.1 e.2 q2' o2':=by
       intro t ht hd h;obtain ⟨y,e,h⟩:=zev h
       obtain ⟨x,ks,qs,h1,h2,h3⟩:=zcI ss (i+1) vs (fun x ks qs=>k ((y,[]),x) (some g::ks) (none::qs)) hl' h
       refine ⟨((y,[]),x),some g::ks,none::qs,h1,step (e:=fun _=>(.ptr (base+i) 1 0,.vbox _ (zhq ls y) [_] [.ref (zcx+i) 1 0 0])) h2 h3 (fun _=>rfl) rfl (fun sj'=>?_)⟩
       rw [←e];have:=Ext.vbx0 (tq:=tq) (L:=L) (all:=all) (sh:=sh) (sj:=sj') (id:=base+i) _ _ _ _ _ sz _ ht hg hL hd
       rw [show base+i+20000=zcx+i by unfold base zcx; omega] at this
       exact this
      split at h
      ·rename_i hd; exact key _ (.inr rfl) hd h
      ·rename_i hd; exact key _ (.inl rfl) hd h
      ·cases h
     ·cases h
    ·cases h
   ·cases h
theorem zuu:∀ {tks:List (Nat×Bool)} {k:TbT tks→Option R},zEa L tks k=some r→∃ Ts,k Ts=some r∧∀ (L0:Loc),(tks.map (·.1)).Nodup→∀ q,
  ((∃ w T,(zqC L0 tks Ts) (tb q)=(1,.tbl w T)∧za9 L q=some (w,T))∨(q ∉ tks.map (·.1)∧(zqC L0 tks Ts) (tb q)=L0 (tb q)))
 | [],k,h=>⟨(),h,fun _ _ _=>.inr ⟨by simp,rfl⟩⟩
 | (q0,w0)::tks,k,h=>by
  simp only [zEa] at h;split at h
  ·rename_i w' T e;split at h
   ·rename_i hw;subst hw
    obtain ⟨Ts,h1,h2⟩:=zuu (k:=fun Ts=>k (T,Ts)) h
    refine ⟨(T,Ts),h1,fun L0 hn q=>?_⟩
    simp only [List.map_cons,List.nodup_cons] at hn;simp only [zqC]
    by_cases eq:q=q0
    ·subst eq; rw [Loc.set_same]; exact .inl ⟨_,_,rfl,e⟩
    ·rw [Loc.set_ne _ _ (fun h=>eq (zfb h))]
     rcases h2 L0 hn.2 q with h | ⟨h,h'⟩
     ·exact .inl h
     ·exact .inr ⟨by simp only [List.map_cons,List.mem_cons,not_or]; exact ⟨eq,h⟩,h'⟩
   ·cases h
  ·cases h
end
theorem zxf {L0:Loc} {g:Nat} (hg:∀ q,g≠tb q):∀ (tks:List (Nat×Bool)) (Ts:TbT tks),zqC L0 tks Ts g=L0 g
 | [],_=>rfl
 | (q,w)::tks,Ts=>by simp only [zqC]; rw [Loc.set_ne _ _ (hg q),zxf hg tks]
end Wf

namespace Wf
open Go Go.RowKit
section
variable {es:List (V×HObj)} {fs:List HObj}
theorem zzT {j:Nat} {e:V×HObj} (h:es[j]? =some e) (hd:e.2≠.dead) (hl:base+j < zcx):zim es fs (base+j)=(1,e.2):=by
 obtain ⟨v,o⟩:=e;unfold zim
 rw [if_pos ⟨by omega,hl⟩,show base+j - base=j by omega,h]
 cases o<;>first | rfl | exact absurd rfl hd
theorem zsi {j:Nat} {o:HObj} (h:fs[j]? =some o) (hd:o≠.dead) (hl:zcx+j < 90000):zim es fs (zcx+j)=(1,o):=by
 unfold zim
 rw [if_neg (by omega),if_pos ⟨by omega,hl⟩,show zcx+j - zcx=j by omega,h]
 cases o<;>first | rfl | exact absurd rfl hd
theorem ziW {g:Nat} (hd:(zim es fs g).2≠.dead):(∃ j v o,g=base+j∧g < zcx∧es[j]? =some (v,o)∧o≠.dead∧zim es fs g=(1,o))∨∃ j o,g=zcx+j∧g < 90000∧fs[j]? =some o∧o≠.dead∧zim es fs g=(1,o):=by
 by_cases hg:base≤g∧g < zcx
 ·refine .inl ⟨g - base,?_⟩
  have hg2:g=base+(g - base):=by omega
  cases he:es[g - base]? with
  | none=>exfalso; apply hd; unfold zim; rw [if_pos hg,he]
  | some e=>
   obtain ⟨v,o⟩:=e
   have ho:o≠.dead:=by
    rintro rfl; apply hd; unfold zim; rw [if_pos hg,he]
   exact ⟨v,o,hg2,hg.2,rfl,ho,by have:=zzT (fs:=fs) (e:=(v,o)) he ho (by omega); rwa [←hg2] at this⟩
 ·by_cases hg':zcx≤g∧g < 90000
  ·refine .inr ⟨g - zcx,?_⟩
   have hg2:g=zcx+(g - zcx):=by omega
   cases he:fs[g - zcx]? with
   | none=>exfalso; apply hd; unfold zim; rw [if_neg hg,if_pos hg',he]
   | some o=>
    have ho:o≠.dead:=by
     rintro rfl; apply hd; unfold zim; rw [if_neg hg,if_pos hg',he]
    exact ⟨o,hg2,hg'.2,rfl,ho,by have:=zsi (es:=es) he ho (by omega); rwa [←hg2] at this⟩
  ·exfalso; apply hd; unfold zim; rw [if_neg hg,if_neg hg']
theorem zEb (q:Nat):zim es fs (tb q)=(0,.dead):=by
 unfold zim; rw [if_neg (by unfold tb zcx; omega),if_neg (by unfold tb; omega)]
end
def Src (y z:HObj):Prop:=z=y∨∃ a ds ks vs ds' ks' vs',z=.vbox a ds' ks' vs'∧(y=.vbox a ds ks vs∨y=.box a ds)
theorem Src.live {y z:HObj} (h:Src y z) (hz:z.live=true):y.live=true:=by
 rcases h with rfl | ⟨a,ds,ks,vs,ds',ks',vs',rfl,rfl | rfl⟩
 ·exact hz
 ·rfl
 ·rfl
theorem Src.dead {y z:HObj} (h:Src y z) (hz:z≠.dead):y≠.dead:=by
 rcases h with rfl | ⟨a,ds,ks,vs,ds',ks',vs',rfl,rfl | rfl⟩
 ·exact hz
 ·simp
 ·simp
theorem Src.trow {y z:HObj} (h:Src y z) {sz:Nat} {els:List D} (e:y=.trow sz els):z=.trow sz els:=by
 rcases h with rfl | ⟨a,ds,ks,vs,ds',ks',vs',rfl,rfl | rfl⟩
 ·exact e
 ·cases e
 ·cases e
theorem zxg {ks qs:List (Option Nat)} (h:zh6 (ks++qs)=true):(∀ i j g:Nat,ks[i]? =some (some g)→ks[j]? =some (some g)→i=j)∧(∀ i j g:Nat,qs[i]? =some (some g)→qs[j]? =some (some g)→i=j)∧
  ∀ i j g:Nat,ks[i]? =some (some g)→qs[j]? =some (some g)→False:=by
 have hd:=@zg4 _ h
 have l:∀ {i g:Nat},ks[i]? =some (some g)→(ks++qs)[i]? =some (some g):=fun {i g} h=>by
  rw [List.getElem?_append_left (List.getElem?_eq_some_iff.1 h).1]; exact h
 have r:∀ {i g:Nat},qs[i]? =some (some g)→(ks++qs)[ks.length+i]? =some (some g):=fun {i g} h=>by
  rw [List.getElem?_append_right (by omega),show ks.length+i - ks.length=i by omega]; exact h
 refine ⟨fun i j g a b=>hd i j g (l a) (l b),fun i j g a b=>?_,fun i j g a b=>?_⟩
 ·have:=hd _ _ g (r a) (r b); omega
 ·have:=hd _ _ g (l a) (r b);have:=(List.getElem?_eq_some_iff.1 a).1;omega
section
variable {N:Nat} {w0:World} {O0:Nat→Prop} {γ0:E0} {R:Type} {r:R}
theorem zIW {tks:List (Nat×Bool)} {ss:List SS} {s:St} {k:SST ss→TbT tks→Option R} (h:co tks ss s k=some r):
  ∃ x Ts,k x Ts=some r∧∀ {a:Act} {w:World},Rel N w0 O0 γ0 s a w→Rel N w0 O0 γ0 (SSJ tks ss s.slots.length x Ts) a w:=by
 unfold co at h;split at h
 rotate_left
 ·cases h
 rename_i hlen;obtain ⟨hlen,hle,hnd⟩:=hlen;obtain ⟨x,ks,qs,h1,h2,h3⟩:=zcI ss 0 s.slots _ hlen h;split at h1
 rotate_left
 ·cases h1
 rename_i hdis;obtain ⟨Ts,h1,htb⟩:=zuu h1;refine ⟨x,Ts,h1,?_⟩
 rintro a w ⟨c,hr⟩
 obtain ⟨hdis,hdis2,hdis3⟩:=zxg hdis
 let sj:=fun j=>zk7 0 j ss x
 have h3:=h3 sj;simp only [Nat.zero_add] at h3;let es:=zcm sj 0 ss x;let fs:=ziV ss x;have hfs:fs.length=ss.length:=zdW ss x;let L':Loc:=zqC (zim es fs) tks Ts;have hes:es.length=ss.length:=zcZ ss 0 x
 have hLo:∀ g,(∀ q,g≠tb q)→L' g=zim es fs g:=fun g hg=>zxf hg tks Ts
 have hLb:∀ j,base+j < zcx→L' (base+j)=zim es fs (base+j):=fun j hj=>hLo _ fun q e=>by unfold tb at e; unfold zcx at hj; omega
 have hLb2:∀ j,zcx+j < 90000→L' (zcx+j)=zim es fs (zcx+j):=fun j hj=>hLo _ fun q e=>by unfold tb at e; omega
 have hLt:∀ q,(∃ wr T,L' (tb q)=(1,.tbl wr T)∧za9 s.L q=some (wr,T))∨L' (tb q)=(0,.dead):=fun q=>by
  rcases htb (zim es fs) hnd q with h | ⟨_,h⟩
  ·exact .inl h
  ·rw [zEb] at h; exact .inr h
 have hLi:∀ q,q∈tks.map (·.1)→(L' (tb q)).1=1:=fun q hq=>by
  rcases htb (zim es fs) hnd q with ⟨wr,T,h,_⟩ | ⟨h,_⟩
  ·exact congrArg Prod.fst h
  ·exact absurd hq h
 have hTab:∀ q y,za9 L' q=some y→za9 s.L q=some y:=by
  intro q y hy;rcases hLt q with ⟨wr,T,e1,e2⟩ | e
  ·have:za9 L' q=some (wr,T):=zd1.2 (by rw [e1])
   rw [this] at hy; rw [e2]; exact hy
  ·unfold za9 at hy; rw [e] at hy; cases hy
 let c':Ctx:={ ι:=fun g=>if base≤g∧g < zcx then (ks[g - base]?.join).bind c.ι else if zcx≤g∧g < 90000 then (qs[g - zcx]?.join).bind c.ι else none,γ:=c.γ,ρ:=c.ρ,O:=c.O }
 have hι:∀ j q,base+j < zcx→ks[j]? =some q→c'.ι (base+j)=q.bind c.ι:=by
  intro j q hj hq
  show (if base≤base+j∧base+j < zcx then _ else _)=_
  rw [if_pos ⟨by omega,hj⟩,show base+j - base=j by omega,hq]; rfl
 have hι2:∀ j q,zcx+j < 90000→qs[j]? =some q→c'.ι (zcx+j)=q.bind c.ι:=by
  intro j q hj hq
  show (if base≤zcx+j∧zcx+j < zcx then _ else if zcx≤zcx+j∧zcx+j < 90000 then _ else _)=_
  rw [if_neg (by omega),if_pos ⟨by omega,hj⟩,show zcx+j - zcx=j by omega,hq]; rfl
 have hjl:∀ j e,es[j]? =some e→base+j < zcx:=by
  intro j e he;have:=(List.getElem?_eq_some_iff.1 he).1;unfold base zcx; omega
 have hjl2:∀ (j:Nat) (o:HObj),fs[j]? =some o→zcx+j < 90000:=by
  intro j e he;have:=(List.getElem?_eq_some_iff.1 he).1;unfold zcx; omega
 have hent:∀ j e,es[j]? =some e→∃ v q q2 o2,s.slots[j]? =some v∧ks[j]? =some q∧qs[j]? =some q2∧fs[j]? =some o2∧Ext (tks.map (·.1)) s.L s.slots ss sj (base+j) v q e.1 e.2 q2 o2:=by
  intro j e he
  have hj:j < ss.length:=by
   have:=(List.getElem?_eq_some_iff.1 he).1; omega
  have hv:s.slots[j]? =some (s.slots[j]'(by omega)):=List.getElem?_eq_getElem _
  obtain ⟨e',q,q2,o2,k1,k2,k3,k4,k5⟩:=h3 j _ hv hj
  have:e'=e:=by
   have he2:es[j]? =some e':=k1;rw [he] at he2; exact (Option.some.inj he2).symm
  subst this;exact ⟨_,q,q2,o2,hv,k2,k3,k4,k5⟩
 have hent2:∀ (j:Nat) (o2:HObj),fs[j]? =some o2→o2≠.dead→∃ (v:V) (q q2:Option Nat) (sz:Nat) (els:List D),s.slots[j]? =some v∧qs[j]? =some q2∧ks[j]? =some q∧o2=.arr sz els true∧((∃ g n,q2=some g∧g < 90000∧s.L.get g n=.arr sz els true)∨(q2=none∧els=[])):=by
  intro j o2 he ho
  have hj:j < ss.length:=by
   have:=(List.getElem?_eq_some_iff.1 he).1; omega
  obtain ⟨v0,hv⟩:∃ v0,s.slots[j]? =some v0:=⟨s.slots[j]'(by omega),List.getElem?_eq_getElem _⟩
  obtain ⟨e',q,q2,o2',k1,k2,k3,k4,k5⟩:=h3 j _ hv hj
  have:o2'=o2:=by
   have he2:fs[j]? =some o2':=k4;rw [he] at he2; exact (Option.some.inj he2).symm
  subst this;obtain ⟨e1,e2⟩:=e';dsimp only at k5
  cases k5<;>first | exact absurd rfl ho | skip
  ·rename_i g n ag ds o g2 n2 sz els hg hg2 hL hL2;exact ⟨_,_,_,sz,els,hv,k3,k2,rfl,.inl ⟨g2,n2,rfl,hg2,hL2⟩⟩
  ·rename_i sz t _ _ _ _;exact ⟨_,_,_,_,[],hv,k3,k2,rfl,.inr ⟨rfl,rfl⟩⟩
 have hnt:∀ g b,c'.ι g=some b→∀ q,g≠tb q:=by
  rintro g b hb q rfl
  have:c'.ι (tb q)=none:=by
   show (if base≤tb q∧tb q < zcx then _ else if zcx≤tb q∧tb q < 90000 then _ else none)=none
   rw [if_neg (by unfold tb zcx; omega),if_neg (by unfold tb; omega)]
  rw [this] at hb; cases hb
 have hlive:∀ g b,(L' g).2≠.dead→c'.ι g=some b→∃ g0 n,Src (s.L.get g0 n) (L' g).2∧c.ι g0=some b∧g0 < 90000∧((∃ j,g=base+j∧ks[j]? =some (some g0))∨∃ j,g=zcx+j∧qs[j]? =some (some g0)):=by
  intro g b hd hb;rw [hLo g (hnt g b hb)] at hd ⊢;rcases ziW hd with ⟨j,v,o,rfl,hg9,he,ho,hl⟩ | ⟨j,o,rfl,hg9,he,ho,hl⟩
  ·rw [hl];obtain ⟨v0,q,q2,o2,k1,k2,_,_,k3⟩:=hent j _ he;rw [hι j q hg9 k2] at hb;dsimp only at k3
   cases k3 with
   | own g n sz els hg hL=>exact ⟨g,n,.inl hL.symm,hb,hg,.inl ⟨j,rfl,k2⟩⟩
   | nil=>cases hb
   | box g n ag ds hg hL=>exact ⟨g,n,.inl hL.symm,hb,hg,.inl ⟨j,rfl,k2⟩⟩
   | map g n kk es hg hL=>exact ⟨g,n,.inl hL.symm,hb,hg,.inl ⟨j,rfl,k2⟩⟩
   | vbx g n ag ds o g2 n2 sz els hg hg2 hL hL2=>exact ⟨g,n,.inr ⟨_,_,_,_,_,_,_,rfl,.inl hL⟩,hb,hg,.inl ⟨j,rfl,k2⟩⟩
   | vbx0 g n ag ds o sz t ht hg hL hd=>exact ⟨g,n,.inr ⟨_,_,[],[],_,_,_,rfl,.inr hL⟩,hb,hg,.inl ⟨j,rfl,k2⟩⟩
   | _=>exact absurd rfl ho
  ·rw [hl];obtain ⟨v0,q,q2,sz,els,k1,k2,_,rfl,k3⟩:=hent2 j _ he ho;rw [hι2 j q2 hg9 k2] at hb;rcases k3 with ⟨g,n,rfl,hg,hL⟩ | ⟨rfl,_⟩
   ·exact ⟨g,n,.inl hL.symm,hb,hg,.inr ⟨j,rfl,k2⟩⟩
   ·cases hb
 have hkind:∀ g,(∀ q,g≠tb q)→(L' g).2≠.dead→(∀ a ds,(L' g).2≠.fbox a ds)∧(∀ sz els,(L' g).2≠.trow sz els)∧∀ wr T,(L' g).2≠.tbl wr T:=by
  intro g hg hd;rw [hLo g hg] at hd ⊢;rcases ziW hd with ⟨j,v,o,rfl,hg9,he,ho,hl⟩ | ⟨j,o,rfl,hg9,he,ho,hl⟩
  ·rw [hl];obtain ⟨v0,q,q2,o2,k1,k2,_,_,k3⟩:=hent j _ he;dsimp only at k3 ⊢
   cases k3<;>first | exact absurd rfl ho | exact ⟨by simp,by simp,by simp⟩
  ·rw [hl];obtain ⟨v0,q,q2,sz,els,k1,k2,_,rfl,k3⟩:=hent2 j _ he ho
   exact ⟨by simp,by simp,by simp⟩
 have hown:∀ b,own c' L' b→own c s.L b:=by
  rintro b (hb | ⟨g,hg,hl⟩)
  ·exact .inl hb
  ·have hd:(L' g).2≠.dead:=by intro e; rw [e] at hl; cases hl
   obtain ⟨g0,n,k1,k2,_⟩:=hlive g b hd hg;obtain ⟨_,e2⟩:=zbW rfl (k1.dead hd)
   exact .inr ⟨g0,k2,by rw [e2]; exact k1.live hl⟩
 have hrow:∀ (j g2 n2 sz:Nat) (els:List D) (u:Value),fs[j]? =some (.arr sz els true)→qs[j]? =some (some g2)→s.L.get g2 n2=.arr sz els true→Val c s.L w N (.ref g2 n2 0 els.length) u→Val c' L' w N (.ref (zcx+j) 1 0 els.length) u:=by
  intro j g2 n2 sz els u he hq hL hu;have hj9:=hjl2 j _ he
  have hl:=zsi (es:=es) he (by simp) hj9
  rw [←hLb2 j hj9] at hl;have hi:=hι2 j _ hj9 hq
  cases hu with
  | ref _ _ _ _ _ p1 p2 p3=>
   refine .ref _ _ _ _ _ (by rw [hl]; exact Nat.le_refl _) (fun sz' els' l' hg=>?_) (fun sz' els' hg=>?_)
   ·unfold Loc.get at hg; rw [hl] at hg; simp only [if_true] at hg;injection hg with e1 e2 e3;subst e1; subst e2;rw [hi];exact p2 _ _ _ hL
   ·unfold Loc.get at hg; rw [hl] at hg; simp at hg
 have hrow0:∀ (j sz:Nat) (t:Tag) (u:Value),fs[j]? =some (.arr sz [] true)→(t=.full∨t=.nil)→Rep w (own c s.L) N c.γ (.sl t []) u→Val c' L' w N (.ref (zcx+j) 1 0 0) u:=by
  intro j sz t u he ht hu;have hj9:=hjl2 j _ he
  have hl:=zsi (es:=es) he (by simp) hj9
  rw [←hLb2 j hj9] at hl
  refine .ref _ _ _ _ _ (by rw [hl]; exact Nat.le_refl _) (fun sz' els' l' hg=>?_) (fun sz' els' hg=>?_)
  ·cases hu with
   | slE _ a cap hc hc2 _=>
    have:cap=0:=by
     rcases ht with rfl | rfl
     ·exact hc rfl
     ·exact (hc2 rfl).2
    exact ⟨by simp,a,cap,rfl,Nat.zero_le _,.inl this⟩
   | sl _ _ _ _ _ _ _ h0=>exact absurd rfl h0
  ·unfold Loc.get at hg; rw [hl] at hg; simp at hg
 have hval:∀ j v v' q o u q2 o2,s.slots[j]? =some v→es[j]? =some (v',o)→ks[j]? =some q→Ext (tks.map (·.1)) s.L s.slots ss sj (base+j) v q v' o q2 o2→Val c s.L w N v u→o≠.dead→Val c' L' w N v' u:=by
  intro j v v' q o u q2 o2 hv he hq hx hu ho;have hj9:=hjl j _ he;have hl:=zzT (fs:=fs) he ho hj9;rw [←hLb j hj9] at hl;dsimp only at hl;have hi:=hι j q hj9 hq
  cases hx with
  | own g n sz els hg hL=>
   cases hu with
   | ref _ _ _ _ _ p1 p2 p3=>
    refine .ref _ _ _ _ _ (by rw [hl]; exact Nat.le_refl _) (fun sz' els' l' hg=>?_) (fun sz' els' hg=>?_)
    ·unfold Loc.get at hg; rw [hl] at hg; simp only [if_true] at hg;injection hg with e1 e2 e3;subst e1; subst e2;rw [hi];exact p2 _ _ _ hL
    ·unfold Loc.get at hg; rw [hl] at hg; simp at hg
  | nil sz t ht=>
   have hu:=hu.dat
   refine .ref _ _ _ _ _ (by rw [hl]; exact Nat.le_refl _) (fun sz' els' l' hg=>?_) (fun sz' els' hg=>?_)
   ·cases hu with
    | slE _ a cap hc hc2 _=>
     have:cap=0:=by
      rcases ht with rfl | rfl
      ·exact hc rfl
      ·exact (hc2 rfl).2
     exact ⟨by simp,a,cap,rfl,Nat.zero_le _,.inl this⟩
    | sl _ _ _ _ _ _ _ h0=>exact absurd rfl h0
   ·unfold Loc.get at hg; rw [hl] at hg; simp at hg
  | box g n ag ds hg hL=>
   cases hu with
   | ptr _ _ _ _ p1 p2=>
    refine .ptr _ _ _ _ (by rw [hl]; exact Nat.le_refl _) fun _=>?_
    rw [hi]
    exact p2 (by rw [hL]; simp)
  | vbx g n ag ds k g2 n2 sz els hg hg2 hL hL2=>
   cases hu with
   | ptr _ _ _ _ p1 p2=>
    refine .ptr _ _ _ _ (by rw [hl]; exact Nat.le_refl _) fun _=>?_
    rw [hi]
    exact p2 (by rw [hL]; simp)
  | vbx0 g n ag ds k sz t ht hg hL hd=>
   cases hu with
   | ptr _ _ _ _ p1 p2=>
    refine .ptr _ _ _ _ (by rw [hl]; exact Nat.le_refl _) fun _=>?_
    rw [hi]
    exact p2 (by rw [hL]; simp)
  | map g n kk es hg hL=>
   cases hu with
   | map _ _ _ p1 p2=>
    refine .map _ _ _ (by rw [hl]; exact Nat.le_refl _) fun _=>?_
    rw [hi]
    exact p2 (by rw [hL]; simp)
  | _=>exact absurd rfl ho
 have hL0:∀ q n T,zms L' q n=some T→n=1∧zms s.L q (s.L (tb q)).1=some T∧(L' (tb q)).1=1:=by
  intro q n T hT;obtain ⟨wr,e1,e2,e3⟩:=zpo hT;rcases hLt q with ⟨wr',T',e4,e5⟩ | e4
  ·have:=hTab q _ e3
   have hn:n=1:=by rw [←e2,e4]
   refine ⟨hn,?_,by rw [e4]⟩
   unfold zms Loc.get;rw [if_pos rfl,zd1.1 this]
  ·unfold za9 at e3; rw [e4] at e3; cases e3
 have hone:∀ q,(∃ T,za9 s.L q=some T)∨True:=fun q=>.inr trivial
 refine ⟨c',⟨fun g=>?_,fun g g' b e1 e2 d1 d2=>?_,fun g b e d=>?_,fun g b e d _ hg=>?_,(hr.mem.tab.fewer (L':=L') hTab).swap rfl rfl (fun _=>Iff.rfl) (fun _ h=>h),fun q=>?_,fun q=>?_,hr.mem.size,hr.mem.size0,
   hr.mem.os,hr.mem.tape,hr.mem.output,hr.mem.keep,hr.mem.osub⟩,⟨?_,fun i v u hv hu=>?_⟩,hr.defers,hr.hγ,fun q hq=>?_,fun g hg=>?_,hr.cells⟩
 ·show zgl c' L' w N (c'.ι g) (L' g).2
  by_cases hgt:∃ q,g=tb q
  ·obtain ⟨q,rfl⟩:=hgt;rcases hLt q with ⟨wr,T,e,_⟩ | e<;>rw [e]<;>trivial
  have hgt:∀ q,g≠tb q:=fun q e=>hgt ⟨q,e⟩
  by_cases hd:(L' g).2=.dead
  ·rw [hd]; trivial
  ·obtain ⟨n2,n3,n4⟩:=hkind g hgt hd
   by_cases hvb:∃ a ds k vs,(L' g).2=.vbox a ds k vs
   ·obtain ⟨a0,ds0,ks0,vs0,hvb⟩:=hvb;rw [hLo g hgt] at hd hvb ⊢;rcases ziW hd with ⟨j,v,o,rfl,hg9,he,ho,hl⟩ | ⟨j,o,rfl,hg9,he,ho,hl⟩
    ·obtain ⟨v0,q,q2,o2,k1,k2,k2',k2'',k3⟩:=hent j _ he;rw [hl] at hvb ⊢;rw [hι j q hg9 k2];dsimp only at k3 hvb ⊢;subst hvb
     cases k3 with
     | vbx g n ag ds o g2 n2 sz els hg hg2 hL hL2=>
      have:=hr.mem.obj g
      obtain ⟨_,e2⟩:=zbW hL (by simp)
      rw [e2] at this;obtain ⟨b,x0,T,fz,p1,p2,p3,p4,p5⟩:=this
      refine ⟨b,x0,T,fz,p1,p2,p3,by simpa using p4,fun i v u hv hu=>?_⟩
      rw [show base+j+20000=zcx+j by unfold base zcx; omega] at hv
      simp only [ovs] at hv p5;rw [List.getElem?_set] at hv;split at hv
      ·rename_i ei;subst ei;split at hv
       ·rename_i hlt;cases hv
        have hlt:o < ds.length:=by simpa using hlt
        have:=p5 o (.ref g2 n2 0 els.length) u (by rw [List.getElem?_set,if_pos rfl,if_pos (by simpa using hlt)]) hu
        exact ⟨hrow j g2 n2 sz els u k2'' k2' hL2 this.1,this.2⟩
       ·cases hv
      ·rename_i ei
       have hv':((ds.map V.d).set o (.ref g2 n2 0 els.length))[i]? =some v:=by
        rw [List.getElem?_set,if_neg ei];rw [List.getElem?_map,List.getElem?_set,if_neg ei] at hv;rw [List.getElem?_map]; exact hv
       have:=p5 i v u hv' hu
       obtain ⟨d,rfl⟩:∃ d,v=.d d:=by
        rw [List.getElem?_map] at hv
        cases hx:(ds.set o (.sl .nil []))[i]? with
        | none=>rw [hx] at hv; cases hv
        | some d=>rw [hx] at hv; exact ⟨d,(Option.some.inj hv).symm⟩
       exact ⟨.d _ _ (this.1.dat.out hown (Nat.le_refl _)),this.2⟩
     | vbx0 g n ag ds o sz t ht hg hL hd0=>
      have:=hr.mem.obj g
      obtain ⟨_,e2⟩:=zbW hL (by simp)
      rw [e2] at this;obtain ⟨b,x0,T,fz,p1,p2,p3,p4,p5⟩:=this
      refine ⟨b,x0,T,fz,p1,p2,p3,by simpa using p4,fun i v u hv hu=>?_⟩
      rw [show base+j+20000=zcx+j by unfold base zcx; omega] at hv
      simp only [ovs] at hv;rw [List.getElem?_set] at hv;split at hv
      ·rename_i ei;subst ei;split at hv
       ·cases hv;have:=p5 o _ u hd0 hu;exact ⟨hrow0 j sz t u k2'' ht this.1,this.2⟩
       ·cases hv
      ·rename_i ei;rw [List.getElem?_map,List.getElem?_set,if_neg ei] at hv
       cases hx:ds[i]? with
       | none=>rw [hx] at hv; cases hv
       | some d=>
        rw [hx] at hv;cases hv;have:=p5 i d u hx hu;exact ⟨.d _ _ (this.1.out hown (Nat.le_refl _)),this.2⟩
    ·obtain ⟨v0,q,q2,sz,els,k1,k2,_,rfl,k3⟩:=hent2 j _ he ho;rw [hl] at hvb;cases hvb
   cases hb:c'.ι g with
   | some b=>
    obtain ⟨g0,n,k1,k2,_⟩:=hlive g b hd hb
    have k1:s.L.get g0 n=(L' g).2:=by
     rcases k1 with k1 | ⟨a,ds,ks,vs,ds',ks',vs',k1,_⟩
     ·exact k1.symm
     ·exact absurd ⟨_,_,_,_,k1⟩ hvb
    obtain ⟨_,e2⟩:=zbW k1 hd;have:=hr.mem.obj g0;rw [e2,k2] at this;revert this;generalize (L' g).2=y at*;intro this
    cases y with
    | dead=>trivial
    | tbl=>trivial
    | box ag ds=>
     obtain ⟨b,x,T,fz,p1,p2,p3,p4,p5⟩:=this
     exact ⟨b,x,T,fz,p1,p2,p3,p4,fun i d u hd hu=>⟨(p5 i d u hd hu).1.out hown (Nat.le_refl _),(p5 i d u hd hu).2⟩⟩
    | vbox=>exact absurd ⟨_,_,_,_,rfl⟩ hvb
    | fbox=>exact absurd rfl (n2 _ _)
    | trow=>exact absurd rfl (n3 _ _)
    | arr sz els lv=>
     simp only [zgl] at this ⊢;obtain ⟨x,T,fz,p1,p2,p3,vs,p4⟩:=this
     exact ⟨x,T,fz,p1,p2,p3,vs,fun i d hd=>⟨(p4 i d hd).1.out hown (Nat.le_refl _),(p4 i d hd).2⟩⟩
    | map kk es=>
     obtain ⟨b,m,k,p1,p2,p3,p4⟩:=this
     exact ⟨b,m,k,p1,p2,p3,fun i p q hp hq=>⟨(p4 i p q hp hq).1,(p4 i p q hp hq).2.out hown (Nat.le_refl _)⟩⟩
   | none=>
    rw [hLo g hgt] at hd ⊢;rw [hLo g hgt] at hvb;rcases ziW hd with ⟨j,v,o,rfl,hg9,he,ho,hl⟩ | ⟨j,o,rfl,hg9,he,ho,hl⟩
    rotate_left
    ·obtain ⟨v0,q,q2,sz,els,k1,k2,_,rfl,k3⟩:=hent2 j _ he ho;rw [hι2 j q2 hg9 k2] at hb;rw [hl];rcases k3 with ⟨g,n,rfl,hg,hL⟩ | ⟨rfl,rfl⟩
     ·have hb:c.ι g=none:=hb;have:=hr.mem.obj g
      obtain ⟨_,e2⟩:=zbW hL (by simp)
      rw [e2,hb] at this;exact this
     ·exact rfl
    obtain ⟨v0,q,q2,o2,k1,k2,_,_,k3⟩:=hent j _ he;rw [hι j q hg9 k2] at hb;rw [hl] at hvb ⊢;dsimp only at k3 hvb ⊢
    cases k3 with
    | vbx=>exact absurd ⟨_,_,_,_,rfl⟩ hvb
    | vbx0=>exact absurd ⟨_,_,_,_,rfl⟩ hvb
    | own g n sz els hg hL=>
     have hb:c.ι g=none:=hb;have:=hr.mem.obj g
     obtain ⟨_,e2⟩:=zbW hL (by simp)
     rw [e2,hb] at this
     exact this
    | nil=>exact rfl
    | box g n ag ds hg hL=>
     have hb:c.ι g=none:=hb;have:=hr.mem.obj g
     obtain ⟨_,e2⟩:=zbW hL (by simp)
     rw [e2,hb] at this;obtain ⟨b,_,_,_,p,_⟩:=this
     cases p
    | map g n kk es hg hL=>
     have hb:c.ι g=none:=hb;have:=hr.mem.obj g
     obtain ⟨_,e2⟩:=zbW hL (by simp)
     rw [e2,hb] at this;obtain ⟨b,_,_,p,_⟩:=this
     cases p
    | _=>exact absurd rfl ho
 ·obtain ⟨g0,n,k1,k2,_,kj⟩:=hlive g b d1 e1;obtain ⟨g0',n',k1',k2',_,kj'⟩:=hlive g' b d2 e2;obtain ⟨_,q1⟩:=zbW rfl (k1.dead d1);obtain ⟨_,q2⟩:=zbW rfl (k1'.dead d2)
  have:=hr.mem.inj g0 g0' b k2 k2' (by rw [q1]; exact k1.dead d1) (by rw [q2]; exact k1'.dead d2)
  subst this;rcases kj with ⟨j,rfl,kj⟩ | ⟨j,rfl,kj⟩<;>rcases kj' with ⟨j',rfl,kj'⟩ | ⟨j',rfl,kj'⟩
  ·rw [hdis j j' g0 kj kj']
  ·exact absurd (hdis3 j j' g0 kj kj') not_false
  ·exact absurd (hdis3 j' j g0 kj' kj) not_false
  ·rw [hdis2 j j' g0 kj kj']
 ·obtain ⟨g0,n,k1,k2,_⟩:=hlive g b d e;obtain ⟨_,q1⟩:=zbW rfl (k1.dead d)
  exact hr.mem.mine g0 b k2 (by rw [q1]; exact k1.dead d)
 ·obtain ⟨g0,n,k1,k2,k9,_⟩:=hlive g b d e;obtain ⟨_,q1⟩:=zbW rfl (k1.dead d)
  refine hr.mem.mineN g0 b k2 (by rw [q1]; exact k1.dead d) (fun sz els e3=>?_) k9
  rw [q1] at e3;exact (hkind g (hnt g b e) d).2.1 sz els (k1.trow e3)
 ·show (if base≤tb q∧tb q < zcx then _ else if zcx≤tb q∧tb q < 90000 then _ else none)=none
  rw [if_neg (by unfold tb zcx; omega),if_neg (by unfold tb; omega)]
 ·show (L' (tb q)).2=.dead∨∃ wr T,(L' (tb q)).2=.tbl wr T;rcases hLt q with ⟨wr,T,e,_⟩ | e
  ·rw [e]; exact .inr ⟨_,_,rfl⟩
  ·rw [e]; exact .inl rfl
 ·show a.tmps.toList.length=(es.map (·.1)++List.replicate (s.slots.length - es.length) (V.d .undef)).length
  have:=hr.slots.1;simp only [List.length_append,List.length_map,List.length_replicate]; omega
 ·show Val c' L' w N v u
  have hv:(es.map (·.1)++List.replicate (s.slots.length - es.length) (V.d .undef))[i]? =some v:=hv
  by_cases hi:i < es.length
  ·rw [List.getElem?_append_left (by simpa using hi),List.getElem?_map] at hv
   cases he:es[i]? with
   | none=>rw [he] at hv; cases hv
   | some e=>
    rw [he] at hv;obtain ⟨v',o⟩:=e
    have hv':v'=v:=by simpa using hv
    subst hv';obtain ⟨v0,q,q2,o2,k1,k2,_,_,k3⟩:=hent i _ he;dsimp only at k3;have hu0:=hr.slots.2 i v0 u k1 hu
    by_cases ho:o=.dead
    ·subst ho
     cases k3 with
     | drop=>exact .d _ _ (.undef _)
     | keep d=>exact .d _ _ (hu0.dat.out hown (Nat.le_refl _))
     | sameR j g n off len e1 e2=>
      obtain ⟨e',p1,p2,p3⟩:=zpA (sj:=sj) ss 0 j x (.inl e2);simp only [Nat.zero_add] at p3;obtain ⟨v1,q1,q2',o2',r1,r2,_,_,r3⟩:=hent j e' p1;rw [e1] at r1; cases r1;have:=hval j _ e'.1 q1 e'.2 u q2' o2' e1 p1 r2 r3 hu0 p2;rw [p3] at this
      exact this
     | sameP j g n off e1 e2=>
      obtain ⟨e',p1,p2,p3⟩:=zpA (sj:=sj) ss 0 j x (.inr e2);simp only [Nat.zero_add] at p3;obtain ⟨v1,q1,q2',o2',r1,r2,_,_,r3⟩:=hent j e' p1;rw [e1] at r1; cases r1;have:=hval j _ e'.1 q1 e'.2 u q2' o2' e1 p1 r2 r3 hu0 p2;rw [p3] at this
      exact this
     | ptr q y _ hq=>
      rcases hq with ⟨k',hq⟩ | hq<;>rw [hq] at hu0
      ·cases hu0 with
       | p _ _ _ hr=>exact .p _ _ _ (hr.out hown (Nat.le_refl _))
      ·exact .p _ _ _ (hu0.dat.out hown (Nat.le_refl _))
     | view q n i' o' lo len hn hq=>
      cases hu0 with
      | vref _ _ _ _ _ _ _ p1 p2=>
       refine .vref _ _ _ _ _ _ _ (by rw [hLi q hq]; exact Nat.le_refl _) fun l hl=>?_
       obtain ⟨wr,T,f1,f2,f3,f4⟩:=zfX hl;have f5:=hTab q _ f3
       exact p2 l (zu6 (wr:=wr) (T:=T) (by unfold Loc.get; rw [if_pos hn.symm,zd1.1 f5]) f4)
     | vmp q n i' o' hn hq=>
      cases hu0 with
      | vmap _ _ _ _ _ p1 p2=>
       refine .vmap _ _ _ _ _ (by rw [hLi q hq]; exact Nat.le_refl _) fun l hl=>?_
       obtain ⟨wr,T,f1,f2,f3,f4⟩:=zhb hl;have f5:=hTab q _ f3
       exact p2 l (zu7 (wr:=wr) (T:=T) (by unfold Loc.get; rw [if_pos hn.symm,zd1.1 f5]) f4)
     | clo f _ hq=>
      rcases hq with hq | hq<;>rw [hq] at hu0
      ·cases hu0 with
       | clo _ _ _ va vb q1 q2 _ _=>exact .clo _ _ _ va vb q1 q2 (fun i v u h _=>by cases h) (fun i v u h _=>by cases h)
      ·have:=hu0.dat
       cases this with
       | fn _ _ _ va vb q1 q2 _ _=>exact .clo _ _ _ va vb q1 q2 (fun i v u h _=>by cases h) (fun i v u h _=>by cases h)
    ·exact hval i _ v' q o u _ _ k1 he k2 k3 hu0 ho
  ·rw [List.getElem?_append_right (by simpa using hi)] at hv
   have:=List.mem_of_getElem? hv;rw [List.mem_replicate] at this;rw [this.2];exact .d _ _ (.undef _)
 ·obtain ⟨a1,a2,a3⟩:=hr.stay q hq
  exact ⟨fun T e=>a1 T (hTab q _ e),a2,a3⟩
 ·have hg:(L' g).1=0:=hg;refine .inl ?_;show (L' g).2=.dead
  by_cases hgt:∃ q,g=tb q
  ·obtain ⟨q,rfl⟩:=hgt;rcases hLt q with ⟨wr,T,e,_⟩ | e
   ·rw [e] at hg; cases hg
   ·rw [e]
  ·have hgt:∀ q,g≠tb q:=fun q e=>hgt ⟨q,e⟩
   rw [hLo g hgt] at hg ⊢
   refine Classical.byContradiction fun hd=>?_
   rcases ziW hd with ⟨j,v,o,rfl,hg9,he,ho,hl⟩ | ⟨j,o,rfl,hg9,he,ho,hl⟩<;>rw [hl] at hg<;>cases hg
end
end Wf

namespace Wf
open Go Go.RowKit
def nl:Code→Nat
 | .seq a b=>nl a+nl b
 | .cond _ a b=>1+nl a+nl b
 | .block _ b=>nl b
 | .scope b=>nl b
 | .loop b=>1+nl b
 | _=>0
structure Ann where
 loops:List (Nat×List SS):=[]
 pubs:List (Nat×List (Nat×TypeId×Nat)):=[]
 hints:zvw:=[]
 pms:List (PM×Nat):=[]
 unr:List (Nat×Nat):=[]
 ks:List (Nat×Bool):=[]
def zEc {α:Type}:List (Nat×α)→Nat→Option α
 | [],_=>none
 | (i,ss)::r,j=>if i=j then some ss else zEc r j
def Ann.at (a:Ann) (i:Nat):Option (List SS):=zEc a.loops i
def Ann.pub (a:Ann) (i:Nat):List (Nat×TypeId×Nat):=(zEc a.pubs i).getD []
def setO (slots:List V) (c:Operand) (b:Bool):List V:=match c with
 | .tmp t=>slots.set t (.d (.bool b))
 | _=>slots
noncomputable def zHN {R α:Type} (u:Option Nat) (i:Nat) (B:(α→Option R)→α→Option R) (a:α):Option R:=match u with
 | some k=>fixN B k a
 | none=>zIV i B a
section
variable {R:Type}
def updK (L:Loc):Wr→(Loc→Option R)→Option R
 | [],k=>k L
 | (g,x)::w,k=>updK (L.set g x) w k
def drun (P:Program) (Γ:Env) (o:Oper) (s:St) (k:St→Foot→Option R):Option R:=
 zh7 (o.op.operands.toList.map (zeX s.slots)) fun vs=>
 zh7 (rdOf Γ o vs s.L) fun rd=>
 if 90000≤o.dst.getD 0 then none else
 aopK P Γ o (zeX s.slots) (s.L.only rd) fun out=>match out with
  | ⟨v,wr⟩=>zh7 (putV s.slots o.dst v) fun slots=>updK s.L wr fun L=>k { slots,L } { rd,wr:=wr.map (·.1) }
def zGp (P:Program) (Γ:Env) (ops:Array Oper) (o:Oper) (s:St) (k:St→Foot→Option R):Option R:=
 match o.guard with
 | none=>drun P Γ o s k
 | some (j,want)=>match (ops[j]?).bind (·.dst) with
  | some d=>match s.slots[d]? with
   | some (.d (.bool b))=>br b fun b=>zh7 (s.slots.set d (.d (.bool b))) fun slots=>if b == want then drun P Γ o { s with slots } k
     else zh7 (putV slots o.dst (.d (.tup []))) fun slots=>k { s with slots } {}
   | some (.d (.tup []))=>zh7 (putV s.slots o.dst (.d (.tup []))) fun slots=>k { s with slots } {}
   | _=>none
  | none=>none
def dreg (P:Program) (Γ:Env) (ops:Array Oper):List Oper→St→List Foot→(St→List Foot→Option R)→Option R
 | [],s,acc,k=>k s acc.reverse
 | o::r,s,acc,k=>zGp P Γ ops o s fun s f=>dreg P Γ ops r s (f::acc) k
def pubK (P:Program) (t:TypeId) (q j:Nat) (s:St) (k:St→Option R):Option R:=
 match s.slots[j]? with
 | some (.ptr g n 0)=>match za9 s.L q with
  | some (true,T)=>match s.L.get g n with
   | .box true ds=>sif (zcp P t=some ds.length) (sif (ds.all D.own0ok=true) (letT (T++[ds.map D.own0]) fun T'=>
     zh7 (s.slots.set j (.d (.h q T.length 0))) fun slots=>k { slots,L:=((s.L.set g ((s.L g).1,.dead)).set (tb q) ((s.L (tb q)).1,.tbl true (T++[List.replicate ds.length .undef]))).set (tb q) ((s.L (tb q)).1+1,.tbl true T') }))
   | .vbox true ds ks vs=>sif (zcp P t=some ds.length) (zri (appT s.L q g ds.length T) (ks.map fun z=>zcS q (0+z)) vs fun xs w=>sif (zBt ks ds=true) (sif ((w.map (·.1)).Nodup) (sif (okOv ds.length ks vs=true)
     (letT (T++[setL (ds.map D.own0) ks xs]) fun T'=>zh7 (s.slots.set j (.d (.h q T.length 0))) fun slots=>updK (appT s.L q g ds.length T) (w++[(tb q,((s.L (tb q)).1+1,.tbl true T'))]) fun L=>k { slots,L }))))
   | _=>none
  | _=>none
 | _=>none
def zEd (P:Program):List (Nat×TypeId×Nat)→St→(St→Option R)→Option R
 | [],s,k=>k s
 | (j,t,q)::r,s,k=>pubK P t q j s fun s=>zEd P r s k
def frz1 (s:St) (j:Nat) (k:St→Option R):Option R:=match s.slots[j]? with
 | some (.ref g n off len)=>zyp s.L (.ref g n off len) fun x w=>zh7 (s.slots.set j (.d x)) fun slots=>updK s.L w fun L=>k { slots,L }
 | _=>k s
def frzK:List SS→Nat→St→(St→Option R)→Option R
 | [],_,s,k=>k s
 | .val (.cell .sl)::r,j,s,k=>frz1 s j fun s=>frzK r (j+1) s k
 | _::r,j,s,k=>frzK r (j+1) s k
def coN (tks:List (Nat×Bool)) (n:Nat) (ss:List SS) (s:St) (k:SST ss→TbT tks→Option R):Option R:=
 if s.slots.length=n then frzK ss 0 s fun s=>co tks ss s k else none
def SSK (tks:List (Nat×Bool)) (ss:List SS) (n:Nat) (x:SST ss) (Ts:TbT tks) (k:St→Option R):Option R:=
 zh7 (SSJ tks ss n x Ts).slots fun slots=>k { slots,L:=(SSJ tks ss n x Ts).L }
def setK (s:St) (c:Operand) (b:Bool) (k:St→Option R):Option R:=zh7 (setO s.slots c b) fun slots=>k { s with slots }
noncomputable def den (P:Program) (Γ:Env) (ann:Ann) (n:Nat):Nat→Code→(AExit→St→Option R)→St→Option R
 | _,.skip,K,s=>K .normal s
 | _,.label _,K,s=>K .normal s
 | _,.exit id,K,s=>K (.exit id) s
 | _,.ret,K,s=>K .ret s
 | _,.region id ops false,K,s=>dreg P Γ ops ops.toList s [] fun s _=>zEd P (ann.pub id) s fun s=>K .normal s
 | _,.region id ops true,K,s=>if Region.lexB .any ops=true then dreg P Γ ops ops.toList s [] fun s log=>if chk ops log=true then zEd P (ann.pub id) s fun s=>K .normal s else none else none
 | i,.seq a b,K,s=>den P Γ ann n i a (fun e s=>match e with
  | .normal=>den P Γ ann n (i+nl a) b K s
  | e=>K e s) s
 | i,.cond c x y,K,s=>match zeX s.slots c with
  | .d (.bool b)=>match ann.at i with
   | none=>br b fun b=>setK s c b fun s=>if b then den P Γ ann n (i+1) x K s else den P Γ ann n (i+1+nl x) y K s
   | some ss=>jn (fun (a:SST ss×TbT ann.ks)=>SSK ann.ks ss n a.1 a.2 fun s=>K .normal s) fun j=>
    let K':AExit→St→Option R:=fun e s=>match e with
     | .normal=>coN ann.ks n ss s fun x Ts=>j (x,Ts)
     | e=>K e s
    br b fun b=>setK s c b fun s=>if b then den P Γ ann n (i+1) x K' s else den P Γ ann n (i+1+nl x) y K' s
  | _=>none
 | i,.block id b,K,s=>den P Γ ann n i b (fun e s=>match e with
  | .exit id'=>if id'=id then K .normal s else K (.exit id') s
  | e=>K e s) s
 | i,.scope b,K,s=>den P Γ ann n i b K s
 | i,.loop b,K,s=>match ann.at i with
  | some ss=>coN ann.ks n ss s fun x Ts=>zb3 (fun again (a:SST ss×TbT ann.ks)=>SSK ann.ks ss n a.1 a.2 fun s=>den P Γ ann n (i+1) b (fun e s=>match e with
    | .normal=>coN ann.ks n ss s fun x Ts=>again (x,Ts)
    | e=>K e s) s) (x,Ts)
  | none=>zHN (zEc ann.unr i) i (fun again s=>den P Γ ann n (i+1) b (fun e s=>match e with
    | .normal=>again s
    | e=>K e s) s) s
 | _,_,_,_=>none
end
section
variable {P:Program} {Γ:Env} {N:Nat} {w0:World} {O0:Nat→Prop} {γ0:E0} {R:Type} {r:R}
theorem zvC (wr:Wr) (L:Loc) (k:Loc→Option R):updK L wr k=k (L.upd wr):=by
 induction wr generalizing L with
 | nil=>rfl
 | cons x w ih=>exact ih _
theorem zFt (tks:List (Nat×Bool)) (ss:List SS) (n:Nat) (x:SST ss) (Ts:TbT tks) (k:St→Option R):SSK tks ss n x Ts k=k (SSJ tks ss n x Ts):=by unfold SSK; rw [zdU]
theorem zCm {s:St} {c:Operand} {b:Bool} (k:St→Option R):setK s c b k=k { s with slots:=setO s.slots c b }:=by unfold setK; rw [zdU]
theorem zxh {o:Oper} {ops:Array Oper} {s:St} {k:St→Foot→Option R} (h:drun P Γ o s k=some r) (hgu:zhi ops s.slots o=some true):
  ∃ s' f,zij P Γ ops o s=some (s',f)∧k s' f=some r:=by
 unfold drun at h;rw [zdU,zdU] at h;split at h
 ·cases h
 rename_i hlt;obtain ⟨out,h1,h2⟩:=zCl h;obtain ⟨v,wr⟩:=out;dsimp only at h2;rw [zdU,zvC] at h2;refine ⟨_,_,?_,h2⟩;unfold zij;rw [hgu];dsimp only;rw [if_neg hlt,h1];rfl
theorem set_same {α:Type} {l:List α} {i:Nat} {x:α} (h:l[i]? =some x):l.set i x=l:=by
 apply List.ext_getElem?;intro j;rw [List.getElem?_set];split
 ·rename_i e; subst e;rw [h];split
  ·rfl
  ·rename_i hn;exact absurd (List.getElem?_eq_some_iff.1 h).1 hn
 ·rfl
theorem zAY {o:Oper} {ops:Array Oper} {s:St} {k:St→Foot→Option R} (h:zGp P Γ ops o s k=some r):∃ s' f,zij P Γ ops o s=some (s',f)∧k s' f=some r:=by
 unfold zGp at h;split at h
 ·rename_i hg
  exact zxh h (by unfold zhi; rw [hg])
 ·rename_i j want hg;split at h
  ·rename_i d hd;split at h
   ·rename_i b hb;have h:=zvx h;have hs:=set_same hb;rw [zdU,hs] at h;split at h
    ·rename_i hw
     exact zxh h (by unfold zhi; rw [hg]; dsimp only; rw [hd]; dsimp only [Option.bind_some]; rw [hb]; dsimp only; rw [hw])
    ·rename_i hw;simp only [Bool.not_eq_true] at hw;rw [zdU] at h;refine ⟨_,_,?_,h⟩;unfold zij zhi;rw [hg]; dsimp only; rw [hd]; dsimp only [Option.bind_some]; rw [hb]; dsimp only; rw [hw]
   ·rename_i hb;rw [zdU] at h;refine ⟨_,_,?_,h⟩;unfold zij zhi;rw [hg]; dsimp only; rw [hd]; dsimp only [Option.bind_some]; rw [hb]
   ·cases h
  ·cases h
theorem zsj {ops:Array Oper}:∀ {l:List Oper} {s:St} {acc:List Foot} {k:St→List Foot→Option R},dreg P Γ ops l s acc k=some r→
  ∃ s' log,zni P Γ ops l s=some (s',log)∧k s' (acc.reverse++log)=some r
 | [],s,acc,k,h=>⟨s,[],rfl,by have h:k s acc.reverse=some r:=h; simpa using h⟩
 | o::l,s,acc,k,h=>by
  obtain ⟨s1,f,h1,h2⟩:=zAY h;obtain ⟨s2,log,h3,h4⟩:=zsj h2
  exact ⟨s2,f::log,by simp only [zni,h1,Option.bind_some,h3,Option.map_some],by simpa using h4⟩
theorem zuv {ops:Array Oper}:∀ {l:List Oper} {s s':St} {log:List Foot},zni P Γ ops l s=some (s',log)→arun P Γ ops l s=some s'
 | [],s,s',log,h=>by injection h with h; injection h with h1 h2; subst h1; rfl
 | o::l,s,s',log,h=>by
  simp only [zni] at h
  cases h1:zij P Γ ops o s with
  | none=>rw [h1] at h; cases h
  | some x=>
   rw [h1] at h;simp only [Option.bind_some] at h
   cases h2:zni P Γ ops l x.1 with
   | none=>rw [h2] at h; cases h
   | some y=>
    rw [h2] at h;injection h with h; injection h with h3 h4;simp only [arun,h1,Option.bind_some]
    exact zuv (log:=y.2) (by rw [h2,←h3])
theorem zor {T:Tb} {m:Nat} {xs:List D} (h:xs.length=m):za8 (T++[List.replicate m .undef]) T.length 0 xs=T++[xs]:=by
 unfold za8;rw [List.getElem?_append_right (Nat.le_refl _)];simp [h]
theorem zzU {T:Tb} {y:List D}:(T++[y])[T.length]? =some y:=by rw [List.getElem?_append_right (Nat.le_refl _)]; simp
theorem zzV {L:Loc} {k g m:Nat} {T:Tb}:za9 (appT L k g m T) k=some (true,T++[List.replicate m .undef]):=by
 unfold appT; rw [ziO,if_pos rfl]
theorem zzW {L:Loc} {k g m:Nat} {T:Tb}:(appT L k g m T).new (tb k)=(L (tb k)).1+1:=by
 unfold appT Loc.new; rw [Loc.set_same]
theorem zCn {t:TypeId} {q j:Nat} {s:St} {k:St→Option R} (h:pubK P t q j s k=some r):∃ s',pubS P t q j s=some s'∧k s'=some r:=by
 unfold pubK at h;split at h
 rotate_left
 ·cases h
 rename_i g n hs;split at h
 rotate_left
 ·cases h
 rename_i T hT
 have key:∀ {x:D×Loc},pubL P t q g n s.L=some x→k { slots:=s.slots.set j (.d x.1),L:=x.2 }=some r→∃ s',pubS P t q j s=some s'∧k s'=some r:=by
  intro x hx hk
  exact ⟨_,by unfold pubS; rw [hs]; show (pubL P t q g n s.L).map _=_; rw [hx]; rfl,hk⟩
 split at h
 ·rename_i ds e;obtain ⟨h1,h2⟩:=zaP h;obtain ⟨h3,h4⟩:=zaP h2;have h5:=zeS h4;rw [zdU] at h5
  have this:ziL (appT s.L q g ds.length T) q T.length 0 ds.length true false (.d (.agg ds))=some { v:=.d (.tup []),wr:=[(tb q,((s.L (tb q)).1+1,.tbl true (T++[ds.map D.own0])))] }:=by
   unfold ziL;rw [zzV];dsimp only;rw [zzU];dsimp only
   rw [if_pos (by simp),if_neg (by simp),if_pos rfl,if_pos ⟨rfl,h3⟩,zzW,zor (by simp)]
  refine key (x:=(_,_)) ?_ h5;unfold pubL;simp only [hT,e];rw [if_pos h1,this];rfl
 ·rename_i ds ks vs e;obtain ⟨h1,h2⟩:=zaP h;obtain ⟨xs,w,h3,h4⟩:=zjF h2;obtain ⟨hc,h5⟩:=zdB h4;have h5:=zeS h5;rw [zdU,zvC] at h5
  have this:ziL (appT s.L q g ds.length T) q T.length 0 ds.length true false (.agg ds ks vs)=some { v:=.d (.tup []),wr:=w++[(tb q,((s.L (tb q)).1+1,.tbl true (T++[setL (ds.map D.own0) ks xs])))] }:=by
   unfold ziL;rw [zzV];dsimp only;rw [zzU];dsimp only
   rw [if_pos (by simp),if_neg (by simp),if_pos rfl,h3]
   dsimp only [Option.bind_some]
   rw [if_pos ⟨rfl,hc⟩,zzW,zor (by rw [zod]; simp)]
  refine key (x:=(_,_)) ?_ h5;unfold pubL;simp only [hT,e];rw [if_pos h1,this];rfl
 ·cases h
theorem zpB {r:R}:∀ {l:List (Nat×TypeId×Nat)} {s:St} {k:St→Option R},zEd P l s k=some r→
  ∃ s',k s'=some r∧∀ {a:Act} {w:World},Rel N w0 O0 γ0 s a w→Rel N w0 O0 γ0 s' a w
 | [],s,k,h=>⟨s,h,fun hr=>hr⟩
 | (j,t,q)::l,s,k,h=>by
  obtain ⟨s1,h1,h2⟩:=zCn h;obtain ⟨s2,h3,h4⟩:=zpB h2
  exact ⟨s2,h3,fun hr=>h4 (zGc h1 hr)⟩
theorem zGq {s:St} {j:Nat} {k:St→Option R} (h:frz1 s j k=some r):∃ s',k s'=some r∧s'.slots.length=s.slots.length∧∀ {a:Act} {w:World},Rel N w0 O0 γ0 s a w→Rel N w0 O0 γ0 s' a w:=by
 unfold frz1 at h;split at h
 ·rename_i g n off len hs;obtain ⟨x,wr,h1,h2⟩:=zew h;rw [zdU,zvC] at h2
  refine ⟨_,h2,by simp,?_⟩
  rintro a w ⟨c,hr⟩
  have hj:=(List.getElem?_eq_some_iff.1 hs).1
  have hj':j < a.tmps.toList.length:=by rw [hr.slots.1]; exact hj
  have hu:=hr.slots.2 j _ (a.tmps.toList[j]'hj') hs (List.getElem?_eq_getElem hj')
  obtain ⟨m1,m2,m3,_⟩:=zrP hr.mem (fun _ _ _=>.inl rfl) h1 hu
  have hwr:wr=[]∨∃ sz els lv,s.L.get g n=.arr sz els lv∧g < 90000∧wr=[(g,(n,.arr sz els false))]:=by
   rcases zpp h1 with ⟨y,h | ⟨q,h⟩,_⟩ | ⟨g',n',off',len',sz,els,lv,e,e2,e3,_,e4⟩
   ·cases h
   ·cases h
   ·cases e; exact .inr ⟨sz,els,lv,e2,e3.2,e4⟩
  refine ⟨c,m1,⟨by simpa using hr.slots.1,fun i v u hv hu'=>?_⟩,hr.defers,hr.hγ,fun q hq=>?_,fun g' hg'=>?_,hr.cells⟩
  ·rw [List.getElem?_set] at hv;split at hv
   ·rename_i e;subst e;cases hv;rw [List.getElem?_eq_getElem hj'] at hu';cases hu';exact .d _ _ m3
   ·exact (hr.slots.2 i v u hv hu').grow m2
  ·obtain ⟨a1,a2,a3⟩:=hr.stay q hq
   refine ⟨fun T e=>a1 T ?_,a2,a3⟩
   rcases hwr with rfl | ⟨sz,els,lv,e2,e3,rfl⟩
   ·exact e
   ·rw [←e]
    exact (zbI (Loc.set_ne _ _ (by unfold tb; omega))).symm
  ·rcases hwr with rfl | ⟨sz,els,lv,e2,e3,rfl⟩
   ·exact hr.given g' hg'
   ·by_cases e:g'=g
    ·subst e
     obtain ⟨k1,k2⟩:=zbW e2 (by simp)
     have hg2:(s.L g').1=0:=by
      have:((s.L.set g' (n,.arr sz els false)) g').1=0:=hg';rw [Loc.set_same] at this;rw [k1]; exact this
     rcases hr.given g' hg2 with h | h
     ·rw [k2] at h; cases h
     ·exact .inr h
    ·have hL:(s.L.upd [(g,(n,.arr sz els false))]) g'=s.L g':=Loc.set_ne _ _ e;have hg3:((s.L.upd [(g,(n,.arr sz els false))]) g').1=0:=hg';rw [hL] at hg3;show ((s.L.upd [(g,(n,.arr sz els false))]) g').2=_∨_;rw [hL];exact hr.given g' hg3
 ·exact ⟨s,h,rfl,fun h=>h⟩
theorem zyA:∀ {ss:List SS} {j:Nat} {s:St} {k:St→Option R},frzK ss j s k=some r→∃ s',k s'=some r∧s'.slots.length=s.slots.length∧∀ {a:Act} {w:World},Rel N w0 O0 γ0 s a w→Rel N w0 O0 γ0 s' a w
 | [],j,s,k,h=>⟨s,h,rfl,fun h=>h⟩
 | x::ss,j,s,k,h=>by
  unfold frzK at h;split at h
  ·exact absurd ‹x::ss=[]› (by simp)
  ·rename_i e;injection e with e1 e2;subst e2;obtain ⟨s1,h1,l1,r1⟩:=zGq (N:=N) (w0:=w0) (O0:=O0) (γ0:=γ0) h;obtain ⟨s2,h2,l2,r2⟩:=zyA h1
   exact ⟨s2,h2,l2.trans l1,fun h=>r2 (r1 h)⟩
  ·rename_i e;injection e with e1 e2;subst e2;exact zyA h
theorem zCo {tks:List (Nat×Bool)} {n:Nat} {ss:List SS} {s:St} {k:SST ss→TbT tks→Option R} (h:coN tks n ss s k=some r):
  ∃ x Ts,k x Ts=some r∧∀ {a:Act} {w:World},Rel N w0 O0 γ0 s a w→Rel N w0 O0 γ0 (SSJ tks ss n x Ts) a w:=by
 unfold coN at h;split at h
 ·rename_i e;obtain ⟨s1,h1,l1,r1⟩:=zyA (N:=N) (w0:=w0) (O0:=O0) (γ0:=γ0) h;rw [←e,←l1];obtain ⟨x,Ts,h2,r2⟩:=zIW (N:=N) (w0:=w0) (O0:=O0) (γ0:=γ0) h1
  exact ⟨x,Ts,h2,fun h=>r2 (r1 h)⟩
 ·cases h
theorem zzX {s:St} {c:Operand} {b:Bool} (h:zeX s.slots c=.d (.bool b)):({ s with slots:=setO s.slots c b }:St)=s:=by
 unfold setO
 cases c with
 | tmp t=>
  simp only [zeX] at h
  have:s.slots[t]? =some (.d (.bool b)):=by
   rw [List.getD_eq_getElem?_getD] at h
   cases hx:s.slots[t]? with
   | none=>rw [hx] at h; cases h
   | some v=>rw [hx] at h; exact congrArg some h
  dsimp only
  rw [set_same this]
 | _=>rfl
theorem zk8 (hΓ:∀ f sp,Γ f=some sp→za2 P f sp) (hP:P.follows .mixedOrders=true) {ann:Ann} {n:Nat}:∀ (c:Code) (i:Nat) (K:AExit→St→Option R) (s:St) (a:Act) (w:World),
  den P Γ ann n i c K s=some r→Rel N w0 O0 γ0 s a w→∀ Q':Exit→Act→World→Prop,(∀ e s a w,K e s=some r→Rel N w0 O0 γ0 s a w→Q' e.real a w)→c.wp P Q' a w
 | .skip,i,K,s,a,w,h,hr,Q',hQ=>wp_skip (hQ .normal s a w h hr)
 | .label _,i,K,s,a,w,h,hr,Q',hQ=>wp_label (hQ .normal s a w h hr)
 | .exit id,i,K,s,a,w,h,hr,Q',hQ=>wp_exit (hQ (.exit id) s a w h hr)
 | .ret,i,K,s,a,w,h,hr,Q',hQ=>wp_ret (hQ .ret s a w h hr)
 | .region id ops false,i,K,s,a,w,h,hr,Q',hQ=>by
  obtain ⟨s',log,h1,h2⟩:=zsj h;obtain ⟨s2,h3,h4⟩:=zpB (N:=N) (w0:=w0) (O0:=O0) (γ0:=γ0) h2
  exact zyk hΓ (zuv h1) hr fun a w hr'=>hQ .normal s2 a w h3 (h4 hr')
 | .region id ops true,i,K,s,a,w,h,hr,Q',hQ=>by
  simp only [den] at h;split at h
  ·rename_i hl;obtain ⟨s',log,h1,h2⟩:=zsj h;split at h2
   ·rename_i hc;obtain ⟨s2,h3,h4⟩:=zpB (N:=N) (w0:=w0) (O0:=O0) (γ0:=γ0) h2
    exact zw3 hΓ hP hl h1 (by simpa using hc) hr fun a w hr'=>hQ .normal s2 a w h3 (h4 hr')
   ·cases h2
  ·cases h
 | .seq x y,i,K,s,a,w,h,hr,Q',hQ=>by
  refine wp_seq (zk8 hΓ hP x i _ s a w h hr _ fun e s' a' w' he hr'=>?_)
  cases e with
  | normal=>exact zk8 hΓ hP y _ K s' a' w' he hr' Q' hQ
  | exit id=>exact hQ (.exit id) s' a' w' he hr'
  | ret=>exact hQ .ret s' a' w' he hr'
 | .cond cc x y,i,K,s,a,w,h,hr,Q',hQ=>by
  simp only [den] at h;have hrx:=hr;obtain ⟨c,hr'⟩:=hr;have hv:=zrh hr'.slots cc;split at h
  ·rename_i b e;rw [e] at hv;split at h
   ·have h:=zvx h;rw [zCm,zzX e] at h
    cases b with
    | true=>exact wp_cond_true hv.bool (zk8 hΓ hP x _ K s a w h hrx Q' hQ)
    | false=>exact wp_cond_false hv.bool (zk8 hΓ hP y _ K s a w h hrx Q' hQ)
   ·rename_i ss _;unfold jn at h;have h:=zvx h;rw [zCm,zzX e] at h
    have hj:∀ (e:AExit) (s:St) (a:Act) (w:World),(match e with
      | .normal=>coN ann.ks n ss s fun x G=>SSK ann.ks ss n x G fun s=>K .normal s
      | e=>K e s)=some r→Rel N w0 O0 γ0 s a w→Q' e.real a w:=by
     intro e s a w hk hr
     cases e with
     | normal=>
      obtain ⟨x,G,h1,h2⟩:=zCo (N:=N) (w0:=w0) (O0:=O0) (γ0:=γ0) (k:=fun x G=>SSK ann.ks ss n x G fun s=>K .normal s) hk
      rw [zFt] at h1
      exact hQ .normal _ a w h1 (h2 hr)
     | exit id=>exact hQ (.exit id) s a w hk hr
     | ret=>exact hQ .ret s a w hk hr
    cases b with
    | true=>exact wp_cond_true hv.bool (zk8 hΓ hP x _ _ s a w h hrx Q' hj)
    | false=>exact wp_cond_false hv.bool (zk8 hΓ hP y _ _ s a w h hrx Q' hj)
  ·cases h
 | .block id b,i,K,s,a,w,h,hr,Q',hQ=>by
  refine wp_block (zk8 hΓ hP b i _ s a w h hr _ fun e s' a' w' he hr'=>?_)
  cases e with
  | normal=>exact hQ .normal s' a' w' he hr'
  | exit id'=>
   dsimp only at he;simp only [AExit.real,Exit.inBlock];split
   ·rename_i hid;rw [if_pos hid] at he;exact hQ .normal s' a' w' he hr'
   ·rename_i hid;rw [if_neg hid] at he
    exact hQ (.exit id') s' a' w' he hr'
  | ret=>exact hQ .ret s' a' w' he hr'
 | .scope b,i,K,s,a,w,h,hr,Q',hQ=>by
  refine wp_scope_straight (zk8 hΓ hP b i K s a w h hr _ fun e s' a' w' he hr'=>?_)
  have:=hQ e s' a' w' he hr'
  cases e<;>exact this
 | .loop b,i,K,s,a,w,h,hr,Q',hQ=>by
  have go:∀ (α:Type) (J:α→St) (B:(α→Option R)→α→Option R) (a0:α) (F:Nat),fixN B F a0=some r→Rel N w0 O0 γ0 (J a0) a w→
    (∀ again x a w,B again x=some r→Rel N w0 O0 γ0 (J x) a w→∀ Q'':Exit→Act→World→Prop,(∀ x' a' w',again x'=some r→Rel N w0 O0 γ0 (J x') a' w'→Q'' .normal a' w')→
     (∀ e a' w',e≠AExit.normal→Q' e.real a' w'→Q'' e.real a' w')→b.wp P Q'' a w)→(Code.loop b).wp P Q' a w:=by
   intro α J B a0 F h0 hr0 hB
   classical
   let p:Act→World→Nat→Prop:=fun a w m=>∃ x,fixN B m x=some r∧Rel N w0 O0 γ0 (J x) a w
   let m:Act→World→Nat:=fun a w=>if h:∃ n,p a w n then Classical.choose (zF8 (p a w) h) else 0
   have hm:∀ a w,(∃ n,p a w n)→p a w (m a w)∧∀ q,p a w q→m a w≤q:=by
    intro a w he;have hs:=Classical.choose_spec (zF8 (p a w) he);have hmm:m a w=Classical.choose (zF8 (p a w) he):=dif_pos he;rw [hmm];exact hs
   refine wp_loop (fun a w=>∃ n,p a w n) m ⟨F,a0,h0,hr0⟩ fun a w hI=>?_
   obtain ⟨⟨x,hx1,hx2⟩,hmin⟩:=hm a w hI
   cases hn:m a w with
   | zero=>rw [hn] at hx1; cases hx1
   | succ q=>
    rw [hn] at hx1
    refine hB (fixN B q) x a w hx1 hx2 _ (fun x' a' w' he hr'=>?_) (fun e a' w' hne he=>?_)
    ·refine ⟨⟨q,x',he,hr'⟩,?_⟩;have:=(hm a' w' ⟨q,x',he,hr'⟩).2 q ⟨x',he,hr'⟩;omega
    ·cases e with
     | normal=>exact absurd rfl hne
     | exit id=>exact he
     | ret=>exact he
  simp only [den] at h;split at h
  ·rename_i ss _;obtain ⟨x,Ts,h1,h2⟩:=zCo (N:=N) (w0:=w0) (O0:=O0) (γ0:=γ0) h
   refine go (SST ss×TbT ann.ks) (fun a=>SSJ ann.ks ss n a.1 a.2) _ _ fuel h1 (h2 hr) fun again x a w hB hr' Q'' hq1 hq2=>?_
   rw [zFt] at hB
   refine zk8 hΓ hP b _ _ _ a w hB hr' Q'' fun e s' a' w' he hr''=>?_
   cases e with
   | normal=>
    obtain ⟨x',Ts',k1,k2⟩:=zCo (N:=N) (w0:=w0) (O0:=O0) (γ0:=γ0) (k:=fun x G=>again (x,G)) he
    exact hq1 _ a' w' k1 (k2 hr'')
   | exit id=>exact hq2 (.exit id) a' w' (by simp) (hQ (.exit id) s' a' w' he hr'')
   | ret=>exact hq2 .ret a' w' (by simp) (hQ .ret s' a' w' he hr'')
  ·obtain ⟨F,h⟩:∃ F,fixN (fun (again:St→Option R) s=>den P Γ ann n (i+1) b (fun e s=>match e with
    | .normal=>again s
    | e=>K e s) s) F s=some r:=by
    unfold zHN at h;split at h
    ·exact ⟨_,h⟩
    ·exact ⟨fuel,h⟩
   refine go St id _ _ F h hr fun again x a w hB hr' Q'' hq1 hq2=>?_
   refine zk8 hΓ hP b _ _ _ a w hB hr' Q'' fun e s' a' w' he hr''=>?_
   cases e with
   | normal=>exact hq1 _ a' w' he hr''
   | exit id=>exact hq2 (.exit id) a' w' (by simp) (hQ (.exit id) s' a' w' he hr'')
   | ret=>exact hq2 .ret a' w' (by simp) (hQ .ret s' a' w' he hr'')
 | .rangeFunc _ _ _ _,i,K,s,a,w,h,hr,Q',hQ=>by simp [den] at h
 | .goto _,i,K,s,a,w,h,hr,Q',hQ=>by simp [den] at h
 | .refuse _,i,K,s,a,w,h,hr,Q',hQ=>by simp [den] at h
end
end Wf

