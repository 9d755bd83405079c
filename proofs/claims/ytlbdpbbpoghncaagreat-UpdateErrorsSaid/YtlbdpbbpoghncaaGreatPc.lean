/- A part of the proof: lemmas that the law's row leans on. -/
import Derived.Scope
import Derived.ProofKit
import Derived.Test.YtlbdpbbpoghncaaGreatPb
set_option linter.all false
namespace Wf
open Go Go.RowKit
section
variable {P:Program} {c:Ctx} {N:Nat} {w0:World} {O0:Nat→Prop} {L Lr:Loc} {w:World}
theorem OpOk.value {o:Oper} {ρ:Operand→Value} {out:Out} {u:Value} {w':World} (h:(execOp ρ o).run P w=.ok (.value u) w') (hd:Did c N w0 O0 L w out u w'):
  OpOk P c N w0 O0 L w o ρ out:=.inl ⟨u,w',h,hd⟩
theorem OpOk.skip {o:Oper} {ρ:Operand→Value} {out:Out} {w':World} (h:(execOp ρ o).run P w=.ok .skip w') (hd:Did c N w0 O0 L w out undef w'):
  OpOk P c N w0 O0 L w o ρ out:=.inr (.inl ⟨w',h,hd⟩)
theorem zpa {t:TypeId} {v:Value}:(newVar t v).run P w=.ok ⟨w.heap.size,0,none⟩ (w.alloc (.cells v.cells t)):=by
 simp only [newVar,newRow,Sem.run_bind,Sem.run_pure,Result.andThen_ok,run_newObj,World.alloc_eq]
theorem zdD.of_agg {A:Nat→Prop} {γ} {cs:List D} {u:Value} (h:Rep w A N γ (.agg cs) u):zdD w A N γ cs u.cells:=by
 cases h with
 | agg _ vs h1 h2 h3=>
  exact ⟨h1,fun i d v hd hv=>⟨h2 i d v hd hv,h3 i v hv⟩⟩
theorem zdD.of_cell {A:Nat→Prop} {γ} {x:D} {u:Value} (h:Rep w A N γ x u) (hx:x.cell=true):zdD w A N γ [x] u.cells:=by
 have h1:=h.cell hx;rw [zbm h1]
 refine ⟨rfl,fun i d v hd hv=>?_⟩
 cases i with
 | zero=>simp at hd hv; subst hd; subst hv; exact ⟨h,h1⟩
 | succ i=>simp at hd
theorem Vals.map {ρa:Operand→V} {ρ:Operand→Value} (hρ:∀ x,Val c L w N (ρa x) (ρ x)) (l:List Operand):Vals c L w N (l.map ρa) (l.map ρ):=by
 refine ⟨by simp,fun i v u h1 h2=>?_⟩
 rw [List.getElem?_map] at h1 h2
 cases hx:l[i]? with
 | none=>rw [hx] at h1; cases h1
 | some x=>rw [hx] at h1 h2; injection h1 with h1; injection h2 with h2; subst h1; subst h2; exact hρ x
theorem zgO.of_agg {ds:List D} {ks:List Nat} {vs:List V} {u:Value} (h:Val c L w N (.agg ds ks vs) u):zgO c L w N (ovs ks vs (ds.map .d)) u.cells:=by
 cases h with
 | agg _ _ _ us h1 h2 h3=>exact ⟨by rw [zcE]; simpa [Value.cells] using h1,fun i v u hv hu=>⟨h2 i v u hv (by simpa [Value.cells] using hu),h3 i u (by simpa [Value.cells] using hu)⟩⟩
theorem zgO.of_one {v:V} {u:Value} (h:Val c L w N v u) (h1:u.oneCell'=true):zgO c L w N (ovs [0] [v] (([.undef]:List D).map .d)) u.cells:=by
 rw [zbm h1]
 refine ⟨rfl,fun i d y hd hv=>?_⟩
 cases i with
 | zero=>simp [ovs] at hd hv; subst hd; subst hv; exact ⟨h,h1⟩
 | succ i=>simp at hv
theorem zCn {ag:Bool} {n off:Nat} {ds:List D} {ks:List Nat} {vs:List V} {v:V} {us:Array Value} (h:znN ag n off ds ks vs=some v) (h1:us.size=ds.length)
  (h2:∀ (i:Nat) (v:V) (u:Value),(ovs ks vs (ds.map .d))[i]? =some v→us[i]? =some u→Val c L w N v u) (h3:∀ (i:Nat) (u:Value),us[i]? =some u→u.oneCell'=true):
  ∃ u,Val c L w N v u∧(if ag then u=.agg (us.extract off (off+n))∧off+n≤us.size else us[off]? =some u):=by
 unfold znN at h
 cases ag with
 | true=>
  simp only [if_true] at h;split at h
  ·rename_i hle;injection h with h; subst h
   refine ⟨_,Val.mk (vs:=us.extract off (off+n)) (by simp; omega) (fun i v u hv hu=>?_) (fun i u hu=>?_),rfl,by omega⟩
   ·obtain ⟨hu1,hi⟩:=zeG hu;refine h2 (off+i) v u ?_ hu1;rw [zfc,zu8] at hv;rw [zfc];simp only [List.length_map,List.length_take,List.length_drop] at hv ⊢
    rw [if_pos (by omega)] at hv ⊢
    rw [if_pos hi] at hv
    cases hg:zdr ks vs (off+i) with
    | some y=>rw [hg] at hv; exact hv
    | none=>
     rw [hg] at hv;simp only [List.getElem?_map] at hv ⊢;rw [List.getElem?_take,if_pos hi,List.getElem?_drop] at hv;exact hv
   ·exact h3 _ u (zeG hu).1
  ·cases h
 | false=>
  simp only [Bool.false_eq_true,if_false] at h;split at h
  ·rename_i hlt
   have hu:us[off]? =some (us[off]'(by omega)):=by simp
   refine ⟨_,h2 off v _ ?_ hu,by simp⟩
   rw [zfc,if_pos (by simpa using hlt)]
   cases hg:zdr ks vs off with
   | some y=>rw [hg] at h; exact h
   | none=>rw [hg] at h; simpa using h
  ·cases h
theorem zh5.map {ρa:Operand→V} {ρ:Operand→Value} (hρ:∀ x,Val c L w N (ρa x) (ρ x)) (x:Option Operand):zh5 c L w N (x.map ρa) (x.map ρ):=by
 cases x with
 | none=>trivial
 | some x=>exact hρ x
theorem zCo {v:V} (h:zeF Lr v=true):zeF Lr v.unp=true:=by
 cases v<;>first | exact h | rfl
def zkK (s:ByteArray) (l:List D):ByteArray:=l.foldl (fun s d=>s.push (zzQ d)) s
theorem zt3:∀ (l:List D) (s:ByteArray),(zkK s l).data=s.data++(l.map zzQ).toArray
 | [],s=>by simp [zkK]
 | d::l,s=>by
  show (zkK (s.push (zzQ d)) l).data=_;rw [zt3 l];simp [ByteArray.push]
theorem zGC (l:List D):zkK ByteArray.empty l=baOf l:=by
 have:=zt3 l ByteArray.empty;unfold baOf
 rw [show zkK ByteArray.empty l=⟨(zkK ByteArray.empty l).data⟩ from rfl,this]
 rw [show ByteArray.empty.data=#[] from rfl]
 simp
theorem zt4 {A:Nat→Prop} {γ:Nat→Nat→Option Nat}:∀ (l:List D) (vs:List Value) (s:ByteArray),Reps w A N γ l vs→l.all ztQ=true→
    (forIn vs s (fun c s => (match c with | .int .u8 n => pure (ForInStep.yield (s.push (UInt8.ofNat n.toNat))) | _ => do stuck "bytesToString: byte expected"; pure (ForInStep.yield s) : Sem (ForInStep ByteArray))) : Sem ByteArray).run P w = .ok (zkK s l) w
  | [],vs,s,hr,_=>by
    have:=hr.nil_inv; subst this
    simp [zkK]
  | d::l,vs,s,hr,hb=>by
    obtain ⟨v,vs',rfl,h1,h2⟩:=hr.cons_inv
    simp only [List.all_cons,Bool.and_eq_true] at hb
    obtain ⟨hb1,hb2⟩:=hb
    cases d<;>simp [ztQ] at hb1
    rename_i k n
    cases k<;>simp at hb1
    cases h1
    have:=zt4 l vs' (s.push (UInt8.ofNat n.toNat)) h2 hb2
    simp only [List.forIn_cons,Sem.run_bind,Sem.run_pure,Result.andThen_ok]
    rw [this]; rfl
theorem zCp (hm:Mem c N w0 O0 L w) (hs:Sees Lr L) {src dst:TypeId} {v:V} {l:List D} {u:Value} (hl:zdH Lr v=some l) (hv:Val c L w N v u) (hb:l.all ztQ=true) (h1:zhf P src=true) (h2:zmS P dst=true):
  (convert src dst u).run P w=.ok (.string (baOf l)) w:=by
 have hcell:l.all (fun d=>d.cell)=true:=by
  rw [List.all_eq_true] at hb ⊢;intro d hd;have:=hb d hd;cases d<;>simp_all [ztQ,D.cell]
 have hdst:P.underlying dst=some .string:=by
  unfold zmS at h2;split at h2
  ·assumption
  ·cases h2
 obtain ⟨e,hsrc,he⟩:∃ e,P.underlying src=some (.slice e)∧P.underlying e=some (.int .u8):=by
  unfold zhf at h1;split at h1
  ·rename_i e hu;exact ⟨e,hu,zhm (of_decide_eq_true h1).1⟩
  ·cases h1
 have hso:zwT P Lr src v=some l:=by
  unfold zwT
  have:zmS P src=false:=by unfold zmS; rw [hsrc]
  split
  ·rename_i s; cases hl
  ·rw [this]; simpa using hl
 obtain ⟨_,nx,n1,n2,n3,n4⟩:=zCd (P:=P) hm hs hso hv hcell l.length (Nat.le_refl _);rw [List.take_length] at n3;obtain ⟨a,cap,rfl,hc,hh⟩:=ztW hm hs hl hv
 cases a with
 | none=>
  have:l=[]:=by
   rcases hh with h | ⟨b,o,sz,vs,h,_⟩
   ·exact h
   ·cases h
  subst this
  simp [convert,zbt hsrc,zbt hdst,zbt he,Conv.bytesToString,baOf]; rfl
 | some a=>
  simp only [Builtin.firstCells,Nat.mul_one] at n1
  have hloop:=zt4 (P:=P) (N:=0) (A:=own c L) l nx.toList ByteArray.empty (by exact ⟨n3.1,fun i d v h1 h2=>(n3.2 i d v h1 h2).out (fun _ h=>h) (Nat.zero_le _)⟩) hb
  simp only [convert,Sem.run_bind,zbt hsrc,zbt hdst,Result.andThen_ok,zbt he,Conv.bytesToString,n1,Sem.run_pure]
  rw [←zGC];rw [←Array.forIn_toList]
  exact congrArg (fun r=>Result.andThen r fun a w'=>Result.ok (Value.string a) w') hloop
theorem zCq (hm:Mem c N w0 O0 L w) (hs:Sees Lr L) {src:TypeId} {v:V} {u:Value} {o:Out} (ha:zwS Lr v=some o) (hv:Val c L w N v u) (h1:zhf P src=true):
  ∃ w',(convert src src u).run P w=.ok u w'∧Did c N w0 O0 L w o u w':=by
 unfold zwS at ha;split at ha
 rotate_left
 ·cases ha
 rename_i g n off len;split at ha
 rotate_left
 ·cases ha
 rename_i sz els hy;split at ha
 rotate_left
 ·cases ha
 rename_i h0;injection ha with ha; subst ha
 have hL:=hs g n (by rw [hy]; simp)
 rw [hy] at hL
 obtain ⟨e,hsrc,he⟩:∃ e,P.underlying src=some (.slice e)∧P.underlying e=some (.int .u8):=by
  unfold zhf at h1;split at h1
  ·rename_i e hu;exact ⟨e,hu,zhm (of_decide_eq_true h1).1⟩
  ·cases h1
 have hvv:=hv
 cases hv with
 | ref _ _ _ _ _ k1 k2 k3=>
 obtain ⟨_,a,cap,rfl,p3,p4⟩:=k2 _ _ _ hL;rcases p4 with rfl | ⟨b,y,T,fz,r1,rfl,r3,r4⟩
 ·omega
 have hob:=hm.get hL (by simp)
 rw [r1] at hob;obtain ⟨x',T',fz',g2,g3,g4,us,g5⟩:=hob;rw [r3] at g2; cases g2;obtain ⟨fz2,q1,q2⟩:=zA1 r3 g3
 obtain ⟨e1,e2⟩:=zbM hL (by simp)
 have hlt:=zbd r3
 have hset:L.set g ((L g).1,.arr sz els true)=L:=by
  funext k; by_cases hk:k=g
  ·subst hk; rw [Loc.set_same]; exact Prod.ext rfl e2.symm
  ·rw [Loc.set_ne _ _ hk]
 have hw:∀ k,k≠b→(put w b y T fz2).heap[k]? =w.heap[k]? :=fun k hk=>by rw [zcy hlt]; simp [hk]
 have hbb:(put w b y T fz2).heap[b]? =some (.cells y T fz2):=by rw [zcy hlt]; simp
 have hz:∀ y' T' fz',w.heap[b]? =some (.cells y' T' fz')→∃ y'' fz'',(put w b y T fz2).heap[b]? =some (.cells y'' T' fz'')∧y''.size=y'.size:=by
  intro y' T' fz' hy'; rw [r3] at hy'; cases hy'; exact ⟨_,_,hbb,rfl⟩
 have hcp:zb1 (L g).2 (.arr sz els true):=by rw [e2]; exact ⟨rfl,rfl⟩
 have hg:=Grow.write hm (x:=.arr sz els true) r1 (by rw [e2]; rfl) hcp (by simp [put]) hw hz
 rw [q1] at q2
 have hmm:=Mem.write hm (x:=.arr sz els true) r1 (by rw [e2]; simp) (by rw [e2]; rfl) hcp (by simp [put]) hw hz rfl rfl rfl
  ⟨y,T,fz2,hbb,q2,g4,us,fun i d hd=>by
   obtain ⟨p1,p2,p3⟩:=g5 i d hd
   refine ⟨p1.grow hg,p2,fun q u hu=>?_⟩
   have:=p3 q u hu;unfold World.cell? at this ⊢;rw [r3] at this;rw [hbb];exact this⟩
 rw [hset] at hg hmm;refine ⟨_,?_,c,hmm,hg,hvv.grow hg⟩;rw [←q1]
 have hsh:w.shape? b=some (T,y.size):=by unfold World.shape?; rw [r3]
 simp [convert,zbt hsrc,zbt he,markStringish,hsh]
theorem zJr {A:Nat→Prop} {N:Nat} {γ:Nat→Nat→Option Nat} {t:Tag} {l:List D} {u:Value} (h:Rep w A N γ (.sl t l) u) (hl:0 < l.length) (hc:l.all D.cell=true):
  ∃ b o cap,u=.slice (some ⟨b,o,none⟩) l.length cap∧Rep w A N γ (.at_ (.agg l)) (.pointer (some ⟨b,o,none⟩)):=by
 cases h with
 | slE _ a cap h1 h2 _=>simp at hl
 | sl _ _ b o sz cap vs h1 h2 h3 h4 h5 h6 h7 h8 h9=>
  rw [List.all_eq_true] at hc
  have hcell:∀ i (hi:i < l.length),(vs i).oneCell'=true:=fun i hi=>(h8 i _ (List.getElem?_eq_getElem hi)).cell (hc _ (List.getElem_mem hi))
  have hsz:sz=1:=by
   have:=(h9 0 hl).1;rw [zbm (hcell 0 hl)] at this;simpa using this.symm
  subst hsz
  have hget:∀ (j:Nat) (u:Value),((List.range l.length).map vs).toArray[j]? =some u→j < l.length∧u=vs j:=by
   intro j u h;rw [List.getElem?_toArray,List.getElem?_map] at h
   by_cases hj:j < l.length
   ·rw [List.getElem?_range hj] at h;exact ⟨hj,(Option.some.inj h).symm⟩
   ·rw [List.getElem?_eq_none (by simp; omega)] at h
    cases h
  refine ⟨b,o,cap,rfl,.at_ _ (.agg ((List.range l.length).map vs).toArray) b o h5 h7 (fun j u hu=>?_) (.agg _ _ (by simp) (fun i d v hd hv=>?_) (fun i v hv=>?_))⟩
  ·obtain ⟨hj,rfl⟩:=hget j u hu
   have:=(h9 j hj).2 0 (vs j) (by rw [zbm (hcell j hj)]; rfl)
   simpa using this
  ·obtain ⟨hj,rfl⟩:=hget i v hv;exact h8 i d hd
  ·obtain ⟨hj,rfl⟩:=hget i v hv;exact hcell i hj
theorem zGD {Γ:Env} (hΓ:∀ f sp,Γ f=some sp→Sound P f sp) (hm:Mem c N w0 O0 L w) (hs:Sees Lr L) {o:Oper} {ρa:Operand→V} {ρ:Operand→Value}
  (hnew:zfW o.op≠0→Lr (o.dst.getD 0)=L (o.dst.getD 0)) (hcall:zfW o.op=5→∀ i,i≤4→Lr (o.dst.getD 0+1000*i)=L (o.dst.getD 0+1000*i))
  (hd:o.dst.getD 0 < 90000) (hct:∀ f args aty,o.op=.call ⟨.value f,args,aty⟩→∀ q a b pms szs ks F,zmT (ρa f)=some (q,a,b)→Γ q=some (.st pms szs ks F)→∀ x∈ks,Lr (tb x.1)=L (tb x.1))
  {out:Out} (hρ:∀ x,Val c L w N (ρa x) (ρ x)) (h:aop0 P Γ o ρa Lr=some out):OpOk P c N w0 O0 L w o ρ out:=by
 unfold aop0 at h;dsimp only at h
 have hLn:zfW o.op≠0→Lr.new (o.dst.getD 0)=L.new (o.dst.getD 0):=fun hh=>by unfold Loc.new; rw [hnew hh]
 have ht0:o.dst.getD 0 < 100000:=Nat.lt_trans hd (by decide)
 cases hop:o.op<;>rw [hop] at h hnew hcall hLn hct
 case move x=>
  injection h with h; subst h
  exact .value (by simp [execOp,hop]) (Did.same hm (hρ x))
 case assign x=>
  injection h with h; subst h
  exact .value (by simp [execOp,hop]) (Did.same hm (hρ x))
 case pick x y z=>
  dsimp only at h;split at h
  ·rename_i b hb;injection h with h; subst h;have hv:=hρ x; rw [hb] at hv;have:=hv.bool
   refine .value (u:=if b then ρ y else ρ z) (by simp [execOp,hop,this,asBool]) (Did.same hm ?_)
   cases b
   ·exact hρ z
   ·exact hρ y
  ·cases h
 case alloc e=>
  dsimp only at h;split at h
  ·rename_i cs hz;obtain ⟨i,zv,z1,z2,z3⟩:=zo8 hz;have hr:=(zde z3).2.2 w (own c L) N c.γ;injection h with h; subst h
   rw [hLn (by simp [zfW])]
   refine .value ?_ (zvo hm ht0 (a:=true) (T:=e) (zdD.of_agg hr));simp only [execOp,hop]
   exact zbr (by simp [Instr.alloc,zeroValue,typeInfo,z1,z2,zpa])
  ·rename_i x hz;split at h
   ·rename_i hx;obtain ⟨i,zv,z1,z2,z3⟩:=zo8 hz;have hr:=(zde z3).2.2 w (own c L) N c.γ;injection h with h; subst h
    rw [hLn (by simp [zfW])]
    refine .value ?_ (zvo hm ht0 (a:=false) (T:=e) (zdD.of_cell hr hx));simp only [execOp,hop]
    exact zbr (by simp [Instr.alloc,zeroValue,typeInfo,z1,z2,zpa])
   ·cases h
  ·cases h
 case box e x=>
  have hv:=(hρ x).unp
  have hrun:(execOp ρ o).run P w=.ok (.value (.pointer (some ⟨w.heap.size,0,none⟩))) (w.alloc (.cells (ρ x).cells e)):=by
   simp only [execOp,hop]
   exact zbr (by simp [Instr.box,zpa])
  dsimp only at h;split at h
  ·rename_i cs hx;rw [hx] at hv;injection h with h; subst h
   rw [hLn (by simp [zfW])]
   exact .value hrun (zvo hm ht0 (a:=true) (T:=e) (zdD.of_agg hv.dat))
  ·rename_i ds ks vs hx;rw [hx] at hv;injection h with h; subst h
   rw [hLn (by simp [zfW])]
   exact .value hrun (zz7 hm ht0 (a:=true) (T:=e) (zgO.of_agg hv))
  ·rename_i x' _ hx;rw [hx] at hv;split at h
   ·rename_i hc;injection h with h; subst h
    rw [hLn (by simp [zfW])]
    exact .value hrun (zvo hm ht0 (a:=false) (T:=e) (zdD.of_cell hv.dat hc))
   ·cases h
  ·split at h
   ·rename_i hk;injection h with h; subst h
    rw [hLn (by simp [zfW])]
    exact .value hrun (zz7 hm ht0 (a:=false) (T:=e) (zgO.of_one hv (znV hs hk.2 hk.1 hv)))
   ·cases h
 case build t ps=>
  obtain ⟨v,hv0,rfl⟩:=zdE h
  have hv:Vals c L w N ((ps.toList.map fun (i,x)=>(i,(ρa x).unp)).map (·.2)) (ps.toList.map fun p=>ρ p.2):=by
   have:=Vals.map (ρa:=fun x=>(ρa x).unp) (fun x=>(hρ x).unp) (ps.toList.map (·.2))
   simpa [List.map_map,Function.comp_def] using this
  obtain ⟨u,k1,k2⟩:=zCf hm hs hv0 hv;refine .value ?_ (Did.same hm k2);simp only [execOp,hop];refine zbr ?_;rw [←k1];congr 2;apply Array.ext';simp [List.map_map,Function.comp_def,List.zip_map']
 case buildSlice t n ps=>
  dsimp only at h
  have hv:Vals c L w N ((ps.toList.map fun (i,x)=>(i,ρa x)).map (·.2)) (ps.toList.map fun p=>ρ p.2):=by
   have:=Vals.map hρ (ps.toList.map (·.2))
   simpa [List.map_map,Function.comp_def] using this
  obtain ⟨u,w',k1,k2⟩:=ztb hm hs ht0 (hnew (by simp [zfW])) h hv
  refine .value ?_ k2;simp only [execOp,hop];refine zbr ?_;rw [←k1];congr 2;apply Array.ext';simp [List.map_map,Function.comp_def,List.zip_map']
 case load t a=>
  obtain ⟨v,hv,rfl⟩:=zdE h;obtain ⟨u,k1,k2⟩:=zzU hm hs hv (hρ a);refine .value ?_ (Did.same hm k2);simp only [execOp,hop];exact zbr k1
 case store t a x=>
  dsimp only at h;split at h
  ·rename_i hk;obtain ⟨w',k1,k2⟩:=zB9 hm hs h (hρ a) (hρ x).unp (zCo hk);refine .skip ?_ k2;simp only [execOp,hop];exact zrA k1
  ·cases h
 case nilCheck x=>
  have hv:=hρ x
  have fin:∀ v,(∃ a,ρ x=.pointer (some a))→Val c L w N v (ρ x)→OpOk P c N w0 O0 L w o ρ { v }:=by
   rintro v ⟨a,ha⟩ hv
   exact .value (u:=ρ x) (by simp [execOp,hop,ha]) (Did.same hm hv)
  dsimp only at h;split at h
  ·rename_i g n o' hx;rw [hx] at hv;split at h
   ·rename_i hk;injection h with h; subst h;have hd:=((ziM hs hk).1 g n o' rfl).2;refine fin _ ?_ hv
    cases hv with
    | ptr _ _ _ u h1 h2=>obtain ⟨b,hb,hu⟩:=h2 hd; exact ⟨_,hu⟩
   ·cases h
  ·rename_i g n i o' hx;rw [hx] at hv;split at h
   ·rename_i hk;injection h with h; subst h;obtain ⟨sz,els,l,e1,e2⟩:=(ziM hs hk).2.1 g n i o' rfl;refine fin _ ?_ hv
    cases hv with
    | ept _ _ _ _ u h1 h2=>obtain ⟨b,hb,hu⟩:=h2 sz els l e1 e2; exact ⟨_,hu⟩
   ·cases h
  ·rename_i k n i o' j f hx;rw [hx] at hv;split at h
   ·rename_i hk;injection h with h; subst h;obtain ⟨els,e1,e2⟩:=(ziM hs hk).2.2.2 k n i o' j f rfl;refine fin _ ?_ hv
    cases hv with
    | vept _ _ _ _ _ _ u h1 h2=>obtain ⟨b,hb,hu⟩:=h2 els e1 e2; exact ⟨_,hu⟩
   ·cases h
  ·rename_i k n o' hx;rw [hx] at hv;injection h with h; subst h;refine fin _ ?_ hv;have hr:=hv.dat;generalize ρ x=u at*;cases hr; exact ⟨_,rfl⟩
  ·rename_i d hx;rw [hx] at hv;injection h with h; subst h;refine fin _ ?_ hv;have hr:=hv.dat;generalize ρ x=u at*;cases hr; exact ⟨_,rfl⟩
  ·rename_i k y hx;rw [hx] at hv;split at h
   ·split at h
    ·rename_i hc;obtain ⟨rfl,rfl⟩:=hc;injection h with h; subst h;have hv':=hv.unp;refine fin _ ?_ hv';have hr:=hv'.dat;generalize ρ x=u at*;cases hr; exact ⟨_,rfl⟩
    ·cases h
   ·cases h
  ·rename_i f a b hx;rw [hx] at hv;injection h with h; subst h;refine .value (u:=ρ x) ?_ (Did.same hm hv);simp only [execOp,hop];generalize ρ x=u at*;cases hv; rfl
  ·rename_i f a b hx;rw [hx] at hv;injection h with h; subst h;have hr:=hv.dat;refine .value (u:=ρ x) ?_ (Did.same hm hv);simp only [execOp,hop];generalize ρ x=u at*;cases hr; rfl
  ·cases h
 case binOp op ty x y _=>
  have hx:=hρ x;have hy:=hρ y;dsimp only at h;split at h
  ·rename_i a b ha hb;rw [ha] at hx; rw [hb] at hy;have rx:=hx.dat;have ry:=hy.dat;obtain ⟨us,hus,_⟩:=hx.datAgg;obtain ⟨vs,hvs,_⟩:=hy.datAgg;split at h
   ·cases h
   ·rename_i hg
    have hg':P.eqGuardType P.depth ty=false:=by simpa using hg
    split at h
    ·obtain ⟨v,hv,rfl⟩:=zdE h
     cases hq:aeq P 5 ty (.agg a) (.agg b) with
     | none=>rw [hq] at hv; cases hv
     | some r=>
      rw [hq] at hv;injection hv with hv; subst hv;refine .value (u:=.bool r) ?_ (Did.same hm (.d _ _ (.bool r)));have:=zCl 5 (Op.maxDepth - 5) ty _ _ r _ _ hq rx ry;simp only [execOp,hop];refine zbr ?_;rw [hus,hvs] at this ⊢;have e:5+(Op.maxDepth - 5)=Op.maxDepth:=rfl;rw [e] at this;simp [eqGuard,hg',binOp,Op.equal,this]
    ·obtain ⟨v,hv,rfl⟩:=zdE h
     cases hq:aeq P 5 ty (.agg a) (.agg b) with
     | none=>rw [hq] at hv; cases hv
     | some r=>
      rw [hq] at hv;injection hv with hv; subst hv;refine .value (u:=.bool !r) ?_ (Did.same hm (.d _ _ (.bool !r)));have:=zCl 5 (Op.maxDepth - 5) ty _ _ r _ _ hq rx ry;simp only [execOp,hop];refine zbr ?_;rw [hus,hvs] at this ⊢;have e:5+(Op.maxDepth - 5)=Op.maxDepth:=rfl;rw [e] at this;simp [eqGuard,hg',binOp,Op.equal,this]
    ·cases h
  ·split at h
   ·rename_i k hk;split at h
    ·rename_i hc;have nb:=zxj hc hy;split at h
     ·obtain ⟨v,hv,rfl⟩:=zdE h
      cases hq:zqD Lr k (ρa x) with
      | none=>rw [hq] at hv; cases hv
      | some r=>
       rw [hq] at hv;injection hv with hv; subst hv;refine .value (u:=.bool r) ?_ (Did.same hm (.d _ _ (.bool r)));have:=(zCm (w:=w) hk (zxk hs hq (zt2 hk) hx) nb).1 x y;simp only [execOp,hop];exact zbr this
     ·obtain ⟨v,hv,rfl⟩:=zdE h
      cases hq:zqD Lr k (ρa x) with
      | none=>rw [hq] at hv; cases hv
      | some r=>
       rw [hq] at hv;injection hv with hv; subst hv;refine .value (u:=.bool !r) ?_ (Did.same hm (.d _ _ (.bool !r)));have:=(zCm (w:=w) hk (zxk hs hq (zt2 hk) hx) nb).2 x y;simp only [execOp,hop];exact zbr this
     ·cases h
    ·cases h
   ·split at h
    ·rename_i a b ha hb;rw [ha] at hx; rw [hb] at hy;obtain ⟨v,hv,rfl⟩:=zdE h
     cases hq:abin (zrf P ty) op a b with
     | none=>rw [hq] at hv; cases hv
     | some d=>
      rw [hq] at hv;injection hv with hv; subst hv;obtain ⟨z,k1,k2⟩:=zGA (x:=x) (y:=y) hq hx.dat hy.dat;refine .value ?_ (Did.same hm (.d _ _ k2));simp only [execOp,hop];exact zbr k1
    ·cases h
 case unOp op ty x=>
  have hx:=hρ x;dsimp only at h;split at h
  ·rename_i a ha;rw [ha] at hx;obtain ⟨v,hv,rfl⟩:=zdE h
   cases hq:aun op a with
   | none=>rw [hq] at hv; cases hv
   | some d=>
    rw [hq] at hv;injection hv with hv; subst hv;unfold aun at hq;split at hq
    ·injection hq with hq; subst hq;refine .value ?_ (Did.same hm (.d _ _ (.int _ _)));simp only [execOp,hop,hx.int]
     exact zbr (by simp [Op.unary,Op.intArith])
    ·injection hq with hq; subst hq;refine .value ?_ (Did.same hm (.d _ _ (.bool _)));simp only [execOp,hop,hx.bool]
     exact zbr (by simp [Op.unary])
    ·injection hq with hq; subst hq;refine .value ?_ (Did.same hm (.d _ _ (.int _ _)));simp only [execOp,hop,hx.int]
     exact zbr (by simp [Op.unary,Op.intBits,bits])
    ·cases hq
  ·cases h
 case convert src dst x=>
  have hx:=hρ x;dsimp only at h;split at h
  ·rename_i k1 n hn;split at h
   rotate_left
   ·cases h
   rename_i k0 k h1 h2;rw [hn] at hx;injection h with h; subst h;refine .value ?_ (Did.same hm (.d _ _ (.int _ _)));simp only [execOp,hop,hx.int]
   exact zbr (by simp [convert,zbt (zhm h1),zbt (zhm h2),Conv.intToInt])
  ·split at h
   rotate_left
   ·split at h
    rotate_left
    ·cases h
    rename_i hc;obtain ⟨rfl,c2⟩:=hc;obtain ⟨w',i1,i2⟩:=zCq (P:=P) hm hs h hx c2;refine .value ?_ i2;simp only [execOp,hop];exact zbr i1
   rename_i hc;obtain ⟨c1,c2⟩:=hc;split at h
   rotate_left
   ·cases h
   rename_i l hl;split at h
   rotate_left
   ·cases h
   rename_i hb;injection h with h; subst h;have hrun:=zCp (P:=P) hm hs hl hx hb c1 c2;refine .value ?_ (Did.same hm (.d _ _ (.str _)));simp only [execOp,hop];exact zbr hrun
 case makeFunc fn a b=>
  cases fn with
  | func f=>
   injection h with h; subst h
   refine .value ?_ (Did.same hm (.clo f _ _ (a.map ρ) (b.map ρ) (by simp) (by simp) (fun i v u h1 h2=>?_) (fun i v u h1 h2=>?_)))
   ·simp [execOp,hop,Instr.makeFunc]
   ·exact (Vals.map hρ a.toList).2 i v u h1 (by rw [←h2]; simp)
   ·exact (Vals.map hρ b.toList).2 i v u h1 (by rw [←h2]; simp)
  | _=>cases h
 case makeMap ty r=>
  cases r with
  | some _=>cases h
  | none=>
   dsimp only at h;split at h
   ·injection h with h; subst h
    rw [hLn (by simp [zfW])]
    refine .value ?_ (zGw hm ht0);simp only [execOp,hop]
    exact zbr (by simp only [Instr.makeMap,Option.map_none,Sem.run_bind,Sem.run_pure,Result.andThen_ok,run_newObj,World.alloc_eq])
   ·cases h
 case makeSlice ty n k=>
  dsimp only at h
  obtain ⟨u,w',k1,k2⟩:=zvj hm ht0 (hnew (by simp [zfW])) h (hρ n) (hρ k)
  refine .value ?_ k2;simp only [execOp,hop];exact zbr k1
 case slice ty x lo hi mx=>
  dsimp only at h;obtain ⟨v,hv,rfl⟩:=zdE h;obtain ⟨u,k1,k2⟩:=zCb hm hs hv (hρ x) (zh5.map hρ lo) (zh5.map hρ hi) (zh5.map hρ mx);refine .value ?_ (Did.same hm k2);simp only [execOp,hop];exact zbr k1
 case fieldAddr s x f=>
  dsimp only at h;split at h
  ·rename_i hk;obtain ⟨v,hv,rfl⟩:=zdE h;obtain ⟨q1,q2,q3,q4⟩:=ziM hs hk
   obtain ⟨u,k1,k2⟩:=zvg hv (hρ x) (fun g n off e=>(q1 g n off e).2) q2 q4
   refine .value ?_ (Did.same hm k2);simp only [execOp,hop];exact zbr k1
  ·cases h
 case field s x f=>
  have hx:=hρ x;dsimp only at h;split at h
  ·rename_i cs off size ag hc hf hfa;rw [hc] at hx;obtain ⟨v,hv,rfl⟩:=zdE h
   cases hq:zhe ag size off cs with
   | none=>rw [hq] at hv; cases hv
   | some d=>
    rw [hq] at hv;injection hv with hv; subst hv;obtain ⟨us,hus,z1,z2,z3⟩:=hx.datAgg;obtain ⟨fs,fl,e1,e2,e3,e4⟩:=zw6 hf;obtain ⟨fs',fl',e1',e2',e4'⟩:=zw7 hfa;rw [e1] at e1'; injection e1' with e1'; injection e1' with e1'; subst e1';rw [e2] at e2'; injection e2' with e2'; subst e2'
    obtain ⟨u,p1,p2,p3⟩:=zh3 hq z1 (fun i d u h1 h2=>⟨z2 i d u h1 h2,z3 i u h2⟩)
    refine .value ?_ (Did.same hm (.d _ _ p1));simp only [execOp,hop,hus]
    have hp:=zq1 (w:=w) (off:=off) (cs:=us) (v:=u) e4' e4 (by
     split
     ·rename_i ht; rw [if_pos ht] at p2; exact p2.1
     ·rename_i ht; rw [if_neg ht] at p2; exact p2.1)
    exact zbr (by simp [Instr.field,zbt e1,e2,asAgg,e3,hp])
  ·rename_i ds ks vs off size ag hc hf hfa;rw [hc] at hx;obtain ⟨v,hv,rfl⟩:=zdE h;generalize hu:ρ x=u at*
   cases hx with
   | agg _ _ _ us a1 a2 a3=>
   obtain ⟨fs,fl,e1,e2,e3,e4⟩:=zw6 hf;obtain ⟨fs',fl',e1',e2',e4'⟩:=zw7 hfa;rw [e1] at e1'; injection e1' with e1'; injection e1' with e1'; subst e1';rw [e2] at e2'; injection e2' with e2'; subst e2';obtain ⟨u',p1,p2⟩:=zCn hv a1 a2 a3;refine .value ?_ (Did.same hm p1);simp only [execOp,hop,hu]
   have hp:=zq1 (w:=w) (off:=off) (cs:=us) (v:=u') e4' e4 (by
    split
    ·rename_i ht; rw [if_pos ht] at p2; exact p2.1
    ·rename_i ht; rw [if_neg ht] at p2; exact p2)
   exact zbr (by simp [Instr.field,zbt e1,e2,asAgg,e3,hp])
  ·cases h
 case indexAddr ty x i=>
  dsimp only at h;split at h
  ·rename_i hk;obtain ⟨v,hv,rfl⟩:=zdE h;obtain ⟨q1,q2,q3,q4⟩:=ziM hs hk
   obtain ⟨u,k1,k2⟩:=zvh hm hs hv (hρ x) (hρ i) (fun g n off e=>(q1 g n off e).1) q3 q2 q4
   refine .value ?_ (Did.same hm k2);simp only [execOp,hop];exact zbr k1
  ·cases h
 case index ty x i=>
  have hx:=hρ x;have hi:=hρ i;dsimp only at h;split at h
  ·rename_i cs k n hc hn;rw [hc] at hx;rw [hn] at hi;split at h
   ·rename_i kk sz ag ht;split at h
    ·rename_i hb;obtain ⟨v,hv,rfl⟩:=zdE h
     cases hq:zhe ag sz (n.toNat*sz) cs with
     | none=>rw [hq] at hv; cases hv
     | some d=>
      rw [hq] at hv;injection hv with hv; subst hv;obtain ⟨us,hus,z1,z2,z3⟩:=hx.datAgg;obtain ⟨e,e1,e2,e3⟩:=zCa ht
      obtain ⟨u,p1,p2,p3⟩:=zh3 hq z1 (fun i d u h1 h2=>⟨z2 i d u h1 h2,z3 i u h2⟩)
      refine .value ?_ (Did.same hm (.d _ _ p1));simp only [execOp,hop,hus,hi.int]
      have hp:=zq1 (w:=w) (off:=n.toNat*sz) (cs:=us) (v:=u) e3 e2 (by
       split
       ·rename_i ht; rw [if_pos ht] at p2; exact p2.1
       ·rename_i ht; rw [if_neg ht] at p2; exact p2.1)
      exact zbr (by simp [Instr.index,asIntOf,zbt e1,hb.1,hb.2,zdI e2,hp])
    ·cases h
   ·cases h
  ·cases h
 case lookup ty m k ok=>
  dsimp only at h;obtain ⟨v,hv,rfl⟩:=zdE h;obtain ⟨u,k1,k2⟩:=zA3 hm hs hv (hρ m) (hρ k);refine .value ?_ (Did.same hm k2);simp only [execOp,hop];exact zbr k1
 case mapUpdate ty m k v=>
  dsimp only at h;obtain ⟨w',k1,k2⟩:=znY hm hs h (hρ m) (hρ k) (hρ v).unp;refine .skip ?_ k2;simp only [execOp,hop];exact zrA k1
 case insert ty m k v=>
  dsimp only at h;obtain ⟨w',k1,k2⟩:=znY hm hs h (hρ m) (hρ k) (hρ v).unp;refine .skip ?_ k2;simp only [execOp,hop];exact zrA k1
 case extract x i=>
  have hx:=hρ x;dsimp only at h;split at h
  ·rename_i l hl;rw [hl] at hx;obtain ⟨v,hv,rfl⟩:=zdE h
   cases hq:l[i]? with
   | none=>rw [hq] at hv; cases hv
   | some d=>
    rw [hq] at hv;injection hv with hv; subst hv;have hr:=hx.dat;generalize hu:ρ x=u at*
    cases hr with
    | tup _ vs a1 a2=>
     have hi:i < vs.size:=by rw [a1]; exact (List.getElem?_eq_some_iff.1 hq).1
     have hvi:=Array.getElem?_eq_getElem hi;refine .value ?_ (Did.same hm (.d _ _ (a2 i d _ hq hvi)));simp [execOp,hop,hu,Instr.extract,hvi]
  ·rename_i l hl;rw [hl] at hx;obtain ⟨v,hv,rfl⟩:=zdE h;generalize hu:ρ x=u at*
   cases hx with
   | tup _ vs a1 a2=>
    have hi:i < vs.size:=by rw [a1]; exact (List.getElem?_eq_some_iff.1 hv).1
    have hvi:=Array.getElem?_eq_getElem hi;refine .value ?_ (Did.same hm (a2 i v _ hv hvi));simp [execOp,hop,hu,Instr.extract,hvi]
  ·cases h
 case call cl=>
  obtain ⟨callee,args,argTypes⟩:=cl
  cases callee with
  | invoke _ _=>cases h
  | value f=>
   dsimp only at h;have hv:=Vals.map hρ args.toList
   obtain ⟨k,ay_,k1,k2⟩:=zEw hΓ hm hs (hcall (by simp [zfW])) hd h (hρ f) (us:=args.map ρ) (by simpa using hv) (hct f args argTypes rfl)
   refine .inr (.inr ⟨k,ay_,?_,k2⟩);simp only [execOp,hop,resolve]
   exact k1
  | builtin b=>
   cases b<;>first | (cases h; done) | skip
   case len=>
    dsimp only at h;split at h
    ·rename_i x ty ha hty
     have hargs:args=#[x]:=by apply Array.ext'; simpa using ha
     have hat:argTypes=#[ty]:=by apply Array.ext'; simpa using hty
     subst hargs; subst hat
     cases hl:alen P Lr ty (ρa x) with
     | none=>rw [hl] at h; cases h
     | some n=>
     rw [hl] at h;injection h with h; subst h;refine .value ?_ (Did.same hm (.d _ _ (.int .i64 n)));have hx:=hρ x;simp only [execOp,hop,resolve,Sem.run_bind,Sem.run_pure,Result.andThen_ok,invoke,builtin]
     suffices hh:(Builtin.len_ #[ty] o.type (#[x].map ρ)).run P w=.ok (.int .i64 n) w by rw [hh]; rfl
     have maps:(if (zl9 P ty).isSome=true then (esOf Lr (ρa x)).map fun x=>x.2.length else none)=some n→(Builtin.len_ #[ty] o.type (#[x].map ρ)).run P w=.ok (.int .i64 n) w:=by
      intro hl;split at hl
      rotate_left
      ·cases hl
      rename_i ht
      cases hes:esOf Lr (ρa x) with
      | none=>rw [hes] at hl; cases hl
      | some p=>
      obtain ⟨mk,es⟩:=p;rw [hes] at hl;injection hl with hl
      cases hty:zl9 P ty with
      | none=>rw [hty] at ht; cases ht
      | some q=>
      obtain ⟨kk,et⟩:=q;obtain ⟨kt,t1,t2⟩:=zz4 hty;obtain ⟨b,me,ck,hu,h2,h3,h4⟩:=zEv hm hs hes hx
      have hget:(getObj b).run P w=.ok (.map me ck) w:=by simp [getObj,Sem.run,h2]
      simp [Builtin.len_,zbt t1,hu,hget,goInt,h3,←hl]
     unfold alen at hl;split at hl
     ·rename_i s hs';split at hl
      ·rename_i ht;injection hl with hl; subst hl;rw [hs'] at hx;have hr:=hx.dat;unfold zmS at ht;split at ht
       ·rename_i hu;generalize hv:ρ x=u at*;cases hr;simp [Builtin.len_,zbt hu,hv,goInt]
       ·cases ht
      ·cases hl
     ·exact maps hl
     ·exact maps hl
     ·exact maps hl
     ·split at hl
      ·rename_i ht
       cases he:zcw P ty with
       | none=>rw [he] at ht; cases ht
       | some sz=>
        obtain ⟨e,h1,_⟩:=zmY he
        cases hq:zdH Lr (ρa x) with
        | none=>rw [hq] at hl; cases hl
        | some l=>
         rw [hq] at hl;injection hl with hl; subst hl;obtain ⟨a,cap,hu,_⟩:=ztW hm hs hq hx;simp [Builtin.len_,zbt h1,hu,goInt]
      ·cases hl
    ·cases h
   case min=>
    dsimp only at h;split at h
    ·rename_i a b ha;injection h with h; subst h;obtain ⟨l,hl⟩:∃ l,args.toList=l:=⟨_,rfl⟩;rw [hl] at ha
     cases l with
     | nil=>cases ha
     | cons x l=>cases l with
      | nil=>simp at ha
      | cons y l=>cases l with
       | cons _ _=>simp at ha
       | nil=>
        have hargs:args=#[x,y]:=by apply Array.ext'; simpa using hl
        subst hargs;simp at ha;have hx:=hρ x; rw [ha.1] at hx;have hy:=hρ y; rw [ha.2] at hy;refine .value ?_ (Did.same hm (.d _ _ (.int .i64 (min a b))));simp only [execOp,hop,resolve,Sem.run_bind,Sem.run_pure,Result.andThen_ok,invoke,builtin]
        suffices hh:(Builtin.min_ argTypes o.type (#[x,y].map ρ)).run P w=.ok (.int .i64 (min a b)) w by rw [hh]; rfl
        simp [Builtin.min_,hx.int,hy.int,Builtin.min2];split<;>omega
    ·cases h
   case max=>
    dsimp only at h;split at h
    ·rename_i a b ha;injection h with h; subst h;obtain ⟨l,hl⟩:∃ l,args.toList=l:=⟨_,rfl⟩;rw [hl] at ha
     cases l with
     | nil=>cases ha
     | cons x l=>cases l with
      | nil=>simp at ha
      | cons y l=>cases l with
       | cons _ _=>simp at ha
       | nil=>
        have hargs:args=#[x,y]:=by apply Array.ext'; simpa using hl
        subst hargs;simp at ha;have hx:=hρ x; rw [ha.1] at hx;have hy:=hρ y; rw [ha.2] at hy;refine .value ?_ (Did.same hm (.d _ _ (.int .i64 (max a b))));simp only [execOp,hop,resolve,Sem.run_bind,Sem.run_pure,Result.andThen_ok,invoke,builtin]
        suffices hh:(Builtin.max_ argTypes o.type (#[x,y].map ρ)).run P w=.ok (.int .i64 (max a b)) w by rw [hh]; rfl
        simp [Builtin.max_,hx.int,hy.int,Builtin.max2];split<;>omega
    ·cases h
   case append=>
    dsimp only at h;split at h
    ·rename_i s x ty ty2 ha hty
     have hargs:args=#[s,x]:=by apply Array.ext'; simpa using ha
     have hat:argTypes=#[ty,ty2]:=by apply Array.ext'; simpa using hty
     subst hargs; subst hat;split at h
     ·rename_i h2
      obtain ⟨u,w',k1,k2⟩:=zAZ (rty:=o.type) hm hs ht0 (hnew (by simp [zfW])) h h2 (hρ s) (hρ x)
      refine .value ?_ k2;simp only [execOp,hop,resolve,Sem.run_bind,Sem.run_pure,Result.andThen_ok,invoke,builtin]
      have k1':(Builtin.append_ #[ty,ty2] o.type (#[s,x].map ρ)).run P w=.ok u w':=by simpa using k1
      rw [k1']; rfl
     ·split at h
      rotate_left
      ·cases h
      rename_i h2;obtain ⟨kk,h2⟩:=Option.isSome_iff_exists.1 h2;split at h
      rotate_left
      ·cases h
      rename_i m hm';have hx:=hρ x;rw [hm'] at hx
      obtain ⟨u,w',k1,k2⟩:=zyI (rty:=o.type) hm hs ht0 (hnew (by simp [zfW])) h (zhm h2) (hρ s)
      refine .value ?_ k2;simp only [execOp,hop,resolve,Sem.run_bind,Sem.run_pure,Result.andThen_ok,invoke,builtin]
      have k1':(Builtin.append_ #[ty,ty2] o.type (#[s,x].map ρ)).run P w=.ok u w':=by simpa [hx.int] using k1
      rw [k1']; rfl
    ·cases h
   case copy=>
    dsimp only at h;split at h
    ·rename_i s x ty ty2 ha hty
     have hargs:args=#[s,x]:=by apply Array.ext'; simpa using ha
     have hat:argTypes=[ty,ty2].toArray:=by apply Array.ext'; simpa using hty
     subst hargs; subst hat;obtain ⟨u,w',k1,k2⟩:=zEu (rty:=o.type) (tys:=[ty2]) hm hs h (hρ s) (hρ x);refine .value ?_ k2;simp only [execOp,hop,resolve,Sem.run_bind,Sem.run_pure,Result.andThen_ok,invoke,builtin]
     have k1':(Builtin.copy_ [ty,ty2].toArray o.type (#[s,x].map ρ)).run P w=.ok u w':=by simpa using k1
     rw [k1']; rfl
    ·cases h
 case sliceToArrayPointer arr x=>
  dsimp only at h;split at h
  ·rename_i t l hx;have hv:=hρ x; rw [hx] at hv;split at h
   ·rename_i n e hu;split at h
    ·rename_i hc;obtain ⟨h1,h2,h3,h4⟩:=hc;injection h with h; subst h;have hr:=hv.dat
     obtain ⟨b,o',cap,e1,e2⟩:=zJr hr (by omega) h4
     refine .value (u:=.pointer (some ⟨b,o',none⟩)) ?_ (Did.same hm (.d _ _ e2));simp only [execOp,hop];refine zbr ?_;rw [e1];simp [Instr.arrayAt,zbt hu,h2]
    ·cases h
   ·cases h
  ·cases h
 all_goals cases h
theorem Val.toP {v:V} {u:Value} (h:Val c L w N v u) (t:TypeId):Val c L w N (toP P t v) u:=by
 cases v with
 | d x=>
  simp only [Wf.toP]
  cases zGo P t with
  | none=>exact h
  | some k=>exact .p _ _ _ h.dat
 | _=>exact h
theorem Did.toP {out:Out} {u:Value} {w':World} (h:Did c N w0 O0 L w out u w') (t:TypeId):Did c N w0 O0 L w { out with v:=Wf.toP P t out.v } u w':=by
 obtain ⟨c',a,b,d⟩:=h;exact ⟨c',a,b,d.toP t⟩
theorem zIf {Γ:Env} (hΓ:∀ f sp,Γ f=some sp→Sound P f sp) (hm:Mem c N w0 O0 L w) (hs:Sees Lr L) {o:Oper} {ρa:Operand→V} {ρ:Operand→Value}
  (hnew:zfW o.op≠0→Lr (o.dst.getD 0)=L (o.dst.getD 0)) (hcall:zfW o.op=5→∀ i,i≤4→Lr (o.dst.getD 0+1000*i)=L (o.dst.getD 0+1000*i))
  (hd:o.dst.getD 0 < 90000) (hct:∀ f args aty,o.op=.call ⟨.value f,args,aty⟩→∀ q a b pms szs ks F,zmT (ρa f)=some (q,a,b)→Γ q=some (.st pms szs ks F)→∀ x∈ks,Lr (tb x.1)=L (tb x.1))
  {out:Out} (hρ:∀ x,Val c L w N (ρa x) (ρ x)) (h:aop P Γ o ρa Lr=some out):OpOk P c N w0 O0 L w o ρ out:=by
 unfold aop at h
 cases h0:aop0 P Γ o ρa Lr with
 | none=>rw [h0] at h; cases h
 | some out0=>
  rw [h0] at h;injection h with h; subst h;rcases zGD hΓ hm hs hnew hcall hd hct hρ h0 with ⟨u,w',e1,e2⟩ | ⟨w',e1,e2⟩ | ⟨f,args,e1,e2⟩
  ·exact .inl ⟨u,w',e1,e2.toP _⟩
  ·exact .inr (.inl ⟨w',e1,e2.toP _⟩)
  ·refine .inr (.inr ⟨f,args,e1,e2.mono fun e w' ⟨v,he,hd⟩=>⟨v,he,hd.toP _⟩⟩)
end
end Wf

namespace Wf
open Go Go.RowKit
structure E0 where
 γ:Nat→Nat→Option Nat
 ρ:Nat→Nat→Nat→Option Nat
 W:Nat→Prop
 ι:Nat→Option Nat
structure RelC (N:Nat) (w0:World) (O0:Nat→Prop) (γ0:E0) (c:Ctx) (s:St) (a:Act) (w:World):Prop where
 mem:Mem c N w0 O0 s.L w
 slots:Vals c s.L w N s.slots a.tmps.toList
 defers:a.defers=[]
 hγ:∀ k i x,γ0.γ k i=some x→c.γ k i=some x
 stay:∀ k,¬ γ0.W k→(∀ T,za6 s.L k≠some (true,T))∧c.γ k=γ0.γ k∧c.ρ k=γ0.ρ k
 given:∀ g,(s.L g).1=0→(s.L g).2=.dead∨c.ι g=γ0.ι g
 cells:∀ (b:Nat) (x:Array Value) (T:TypeId) (fz:Nat×Nat),w0.heap[b]? =some (.cells x T fz)→∃ (x':Array Value) (fz':Nat×Nat),w.heap[b]? =some (.cells x' T fz')∧x'.size=x.size
def Rel (N:Nat) (w0:World) (O0:Nat→Prop) (γ0:E0) (s:St) (a:Act) (w:World):Prop:=∃ c,RelC N w0 O0 γ0 c s a w
theorem Vals.put {c L w N} {vs:List V} {a:Act} {v:V} {u:Value} (hv:Vals c L w N vs a.tmps.toList) (h:Val c L w N v u) (dst:Option Tmp):Vals c L w N (putV vs dst v) (a.put dst u).tmps.toList:=by
 cases dst with
 | none=>exact hv
 | some d=>
  refine ⟨by simp [putV,Act.put,hv.1.symm],fun i v' u' h1 h2=>?_⟩
  simp only [putV,Act.put,Array.toList_setIfInBounds] at h1 h2;rw [List.getElem?_set] at h1 h2
  by_cases hd:d=i
  ·subst hd;simp only [if_true] at h1 h2;split at h1
   ·split at h2
    ·injection h1 with h1; injection h2 with h2; subst h1; subst h2; exact h
    ·cases h2
   ·cases h1
  ·simp only [hd,if_false] at h1 h2;exact hv.2 i v' u' h1 h2
theorem zq2 {c L w N} {vs:List V} {a:Act} (hv:Vals c L w N vs a.tmps.toList) (x:Operand):Val c L w N (zfb vs x) (a.eval x):=by
 cases x with
 | tmp t=>
  simp only [zfb,Act.eval]
  by_cases ht:t < vs.length
  ·have ht':t < a.tmps.toList.length:=by rw [hv.1]; exact ht
   have h1:=List.getElem?_eq_getElem ht;have h2:=List.getElem?_eq_getElem ht';have:=hv.2 t _ _ h1 h2;rw [List.getD_eq_getElem?_getD,h1,Array.getD_eq_getD_getElem?,←Array.getElem?_toList,h2];exact this
  ·rw [List.getD_eq_getElem?_getD,List.getElem?_eq_none (Nat.le_of_not_lt ht)]
   exact .d _ _ (.undef _)
 | const v=>
  simp only [zfb,Act.eval]
  cases hd:zhW v with
  | none=>exact .d _ _ (.undef _)
  | some d=>
   have:valD v=some d:=by cases v<;>first | exact hd | cases hd
   exact .d _ _ ((zde this).2.2 w _ N _)
 | global g=>exact .d _ _ (.undef _)
 | func f=>exact .clo f [] [] #[] #[] rfl rfl (by simp) (by simp)
theorem Sees.only (L:Loc) (rd:List Nat):Sees (L.only rd) L:=by
 intro g n h;unfold Loc.get Loc.only at*
 by_cases hg:g∈rd
 ·simp only [hg,if_true]
 ·simp [hg] at h
theorem zyL (L:Loc) {rd:List Nat} {g:Nat} (h:g∈rd):L.only rd g=L g:=by simp [Loc.only,h]
section
variable {P:Program} {N:Nat} {w0:World} {O0:Nat→Prop} {γ0:E0}
theorem RelC.given' {c:Ctx} {L:Loc} {w:World} {c':Ctx} {L':Loc} {w':World} {ι0:Nat→Option Nat} (h:∀ g,(L g).1=0→(L g).2=.dead∨c.ι g=ι0 g) (k:Grow c L w c' L' w'):∀ g,(L' g).1=0→(L' g).2=.dead∨c'.ι g=ι0 g:=by
 intro g e
 have e0:(L g).1=0:=by have:=k.gen g; omega
 rcases k.obj g (by omega) with h1 | ⟨h1,h2⟩
 ·exact .inl h1
 ·rcases h g e0 with h3 | h3
  ·rw [h3] at h2;refine .inl ?_;cases hx:(L' g).2<;>simp [hx,zb1] at h2 ⊢
  ·exact .inr (h1.trans h3)
theorem RelC.did {c:Ctx} {s:St} {a:Act} {w:World} (h:RelC N w0 O0 γ0 c s a w) {out:Out} {u:Value} {w':World} (hd:Did c N w0 O0 s.L w out u w') (dst:Option Tmp):
  Rel N w0 O0 γ0 { slots:=putV s.slots dst out.v,L:=s.L.upd out.wr } (a.put dst u) w':=by
 obtain ⟨c',m,g,v⟩:=hd
 refine ⟨c',m,(h.slots.grow g).put v dst,?_,fun n i x hx=>g.hγ n i x (h.hγ n i x hx),fun k hk=>?_,RelC.given' h.given g,fun b x T fz hb=>?_⟩
 ·cases dst<;>exact h.defers
 ·obtain ⟨a1,a2,a3⟩:=h.stay k hk;obtain ⟨b1,b2,b3⟩:=g.stay k a1;exact ⟨b1,b2.trans a2,b3.trans a3⟩
 ·obtain ⟨x',fz',h1,h2⟩:=h.cells b x T fz hb;obtain ⟨x'',fz'',k1,k2⟩:=g.cells' h1;exact ⟨x'',fz'',k1,k2.trans h2⟩
theorem zAa {Γ:Env} (hΓ:∀ f sp,Γ f=some sp→Sound P f sp) {ops:Array Oper} {i:Nat} {o:Oper} (ho:ops[i]? =some o) {s s':St} {ft:Foot}
  (h:zik P Γ ops o s=some (s',ft)) {a:Act} {w:World} (hr:Rel N w0 O0 γ0 s a w) {K:Act→World→Prop} {Q:Exit→Act→World→Prop} (hK:∀ a' w',Rel N w0 O0 γ0 s' a' w'→K a' w'):
  wpOp P ops Q i K a w:=by
 obtain ⟨c,hr⟩:=hr
 have hg:∀ b,zhg ops s.slots o=some b→Region.wanted o (yielded ops a.tmps)=b:=by
  intro b hb;unfold zhg at hb;unfold Region.wanted;split at hb
  ·rename_i h1;injection hb with hb; subst hb;rw [h1]
  ·rename_i j want h1;rw [h1];dsimp only;split at hb
   ·rename_i b' hs;injection hb with hb; subst hb
    cases hd:(ops[j]?).bind (·.dst) with
    | none=>rw [hd] at hs; cases hs
    | some d=>
     rw [hd] at hs;simp only [Option.bind_some] at hs
     have hd':d < a.tmps.toList.length:=by rw [hr.slots.1]; exact (List.getElem?_eq_some_iff.1 hs).1
     have h2:=List.getElem?_eq_getElem hd';have hv:=(hr.slots.2 d _ _ hs h2).bool
     have:yielded ops a.tmps j=some b':=by
      unfold yielded;rw [hd];simp only [Option.bind_some];rw [←Array.getElem?_toList,h2,hv]
     rw [this];cases b'<;>cases want<;>rfl
   ·rename_i hs;injection hb with hb; subst hb
    cases hd:(ops[j]?).bind (·.dst) with
    | none=>rw [hd] at hs; cases hs
    | some d=>
     rw [hd] at hs;simp only [Option.bind_some] at hs
     have hd':d < a.tmps.toList.length:=by rw [hr.slots.1]; exact (List.getElem?_eq_some_iff.1 hs).1
     have h2:=List.getElem?_eq_getElem hd';have hv:=(hr.slots.2 d _ _ hs h2).dat
     have:yielded ops a.tmps j=none:=by
      unfold yielded;rw [hd];simp only [Option.bind_some];rw [←Array.getElem?_toList,h2];generalize a.tmps.toList[d]=u at hv;cases hv; rfl
     rw [this]; rfl
   ·cases hb
 unfold zik at h;unfold wpOp;rw [ho];dsimp only;split at h
 ·cases h
 ·rename_i hgd;injection h with h; injection h with h1 h2; subst h1;rw [hg _ hgd];simp only [Bool.false_eq_true,if_false];refine hK _ _ ?_
  exact ⟨c,hr.mem,hr.slots.put zhh o.dst,by cases o.dst<;>exact hr.defers,hr.hγ,hr.stay,hr.given,hr.cells⟩
 ·rename_i hgd;rw [hg _ hgd];simp only [if_true];dsimp only at h;split at h
  ·cases h
  rename_i hlt
  cases ha:aop P Γ o (zfb s.slots) (s.L.only (rdOf Γ o (o.op.operands.toList.map (zfb s.slots)) s.L)) with
  | none=>rw [ha] at h; cases h
  | some out=>
   rw [ha] at h;simp only [Option.bind_some] at h;injection h with h; injection h with h1 h2; subst h1
   have hok:=zIf (ρ:=a.eval) hΓ hr.mem (Sees.only _ _) (o:=o)
    (fun hh=>zyL _ (by
     simp only [rdOf,List.mem_append];refine .inl (.inr ?_);split
     ·rename_i e; exact absurd e hh
     ·simp
     ·simp))
    (fun hh i hi=>zyL _ (by
     simp only [rdOf,List.mem_append];refine .inl (.inr ?_);rw [hh]
     have:i=0∨i=1∨i=2∨i=3∨i=4:=by omega
     rcases this with rfl | rfl | rfl | rfl | rfl<;>simp))
    (Nat.lt_of_not_le hlt)
    (fun f args aty hop q b b' pms szs ks F h1 h2 x hx=>zyL _ (by
     simp only [rdOf,List.mem_append];refine .inr (.inr ?_);rw [hop]
     have hhd:((Op.call ⟨.value f,args,aty⟩).operands.toList.map (zfb s.slots)).head? =some (zfb s.slots f):=by
      simp [Op.operands,Call.operands]
     simp only [zzS,hhd,Option.bind_some,h1,h2];exact List.mem_map.2 ⟨x,hx,rfl⟩))
    (zq2 hr.slots) ha
   refine .inl ?_;unfold Oper.wp;rcases hok with ⟨u,w',e1,e2⟩ | ⟨w',e1,e2⟩ | ⟨f,args,e1,e2⟩
   ·rw [e1,Oper.upon_value];exact hK _ _ (hr.did e2 o.dst)
   ·rw [e1,Oper.upon_skip];exact hK _ _ (hr.did e2 o.dst)
   ·rw [e1,Oper.upon_enter]
    refine e2.mono fun e w' ⟨v,he,hd⟩=>?_
    subst he;exact hK _ _ (hr.did hd o.dst)
end
end Wf

namespace Wf
open Go Go.RowKit
section
variable {P:Program} {Γ:Env} {ops:Array Oper}
def comp (P:Program) (Γ:Env) (ops:Array Oper) (o:Oper) (s:St):Option (Out×Foot):=
 match zhg ops s.slots o with
 | none=>none
 | some false=>some ({ v:=.d (.tup []) },{})
 | some true=>
  let vs:=o.op.operands.toList.map (zfb s.slots);let rd:=rdOf Γ o vs s.L
  if 90000≤o.dst.getD 0 then none else (aop P Γ o (zfb s.slots) (s.L.only rd)).bind fun out=>some (out,{ rd,wr:=out.wr.map (·.1) })
def act (s:St) (dst:Option Tmp) (out:Out):St:={ slots:=putV s.slots dst out.v,L:=s.L.upd out.wr }
theorem zpb (o:Oper) (s:St):zik P Γ ops o s=(comp P Γ ops o s).map fun x=>(act s o.dst x.1,x.2):=by
 unfold zik comp
 cases zhg ops s.slots o with
 | none=>rfl
 | some b=>
  cases b with
  | false=>rfl
  | true=>
   dsimp only;split
   ·rfl
   ·cases aop P Γ o (zfb s.slots) (s.L.only (rdOf Γ o (o.op.operands.toList.map (zfb s.slots)) s.L)) with
    | none=>rfl
    | some out=>rfl
theorem zxl {o:Oper} {s:St} {out:Out} {f:Foot} (h:comp P Γ ops o s=some (out,f)):f.wr=out.wr.map (·.1):=by
 unfold comp at h;split at h
 ·cases h
 ·injection h with h; injection h with h1 h2; subst h1; subst h2; rfl
 ·dsimp only at h;split at h
  ·cases h
  cases ha:aop P Γ o (zfb s.slots) (s.L.only (rdOf Γ o (o.op.operands.toList.map (zfb s.slots)) s.L)) with
  | none=>rw [ha] at h; cases h
  | some x=>
   rw [ha] at h;simp only [Option.bind_some] at h;injection h with h; injection h with h1 h2; subst h1; subst h2;rfl
theorem zxm {ρ ρ':Operand→V} {ps:Array (Nat×Operand)} (h:∀ x∈(ps.toList.map (·.2)),ρ x=ρ' x):(ps.toList.map fun (i,x)=>(i,(ρ x).unp))=ps.toList.map fun (i,x)=>(i,(ρ' x).unp):=
 List.map_congr_left fun p hp=>by obtain ⟨i,x⟩:=p; dsimp only; rw [h x (List.mem_map.2 ⟨_,hp,rfl⟩)]
theorem ztc {ρ ρ':Operand→V} {ps:Array (Nat×Operand)} (h:∀ x∈(ps.toList.map (·.2)),ρ x=ρ' x):(ps.toList.map fun (i,x)=>(i,ρ x))=ps.toList.map fun (i,x)=>(i,ρ' x):=
 List.map_congr_left fun p hp=>by obtain ⟨i,x⟩:=p; dsimp only; rw [h x (List.mem_map.2 ⟨_,hp,rfl⟩)]
theorem zjx {ρ ρ':Operand→V} {x:Option Operand} (h:∀ y∈x.toArray,ρ y=ρ' y):x.map ρ=x.map ρ':=by
 cases x with
 | none=>rfl
 | some y=>simp [h y (by simp)]
theorem zA5 {o:Oper} {ρ ρ':Operand→V} (h:∀ x∈o.op.operands,ρ x=ρ' x) (L:Loc):aop0 P Γ o ρ L=aop0 P Γ o ρ' L:=by
 unfold aop0
 cases hop:o.op<;>rw [hop] at h<;>try rfl
 case call cl=>
  obtain ⟨callee,args,argTypes⟩:=cl
  have hm:(∀ x∈args,ρ x=ρ' x)→args.toList.map ρ=args.toList.map ρ':=fun hh=>List.map_congr_left fun x hx=>hh x (by simpa using hx)
  cases callee with
  | invoke _ _=>rfl
  | value f=>
   have h1:ρ f=ρ' f:=h f (by simp [Op.operands,Call.operands])
   have h2:=hm fun x hx=>h x (by simp [Op.operands,Call.operands,hx])
   dsimp only
   rw [h1,h2]
  | builtin b=>
   have h2:∀ x∈args,ρ x=ρ' x:=fun x hx=>h x (by simp [Op.operands,Call.operands,hx])
   have h3:=hm h2
   have h4:∀ l,args.toList=l→∀ x∈l,ρ x=ρ' x:=fun l hl x hx=>h2 x (by rw [←Array.mem_toList_iff,hl]; exact hx)
   cases b<;>try rfl
   case len=>
    dsimp only;generalize hl:args.toList=l;split
    ·rw [h4 _ hl _ (by simp)]
    ·rename_i hn;rfl
   case min=>dsimp only; rw [h3]
   case max=>dsimp only; rw [h3]
   case append=>
    dsimp only;generalize hl:args.toList=l;split
    ·rw [h4 _ hl _ (by simp),h4 _ hl _ (List.mem_cons_of_mem _ (by simp))]
    ·rfl
   case copy=>
    dsimp only;generalize hl:args.toList=l;split
    ·rw [h4 _ hl _ (by simp),h4 _ hl _ (List.mem_cons_of_mem _ (by simp))]
    ·rfl
 case build t ps=>
  dsimp only
  rw [zxm (ρ:=ρ) (ρ':=ρ') fun x hx=>h x (by simpa [Op.operands] using hx)]
 case buildSlice t n ps=>
  dsimp only
  rw [ztc (ρ:=ρ) (ρ':=ρ') fun x hx=>h x (by simpa [Op.operands] using hx)]
 case makeFunc fn a b=>
  have h1:a.toList.map ρ=a.toList.map ρ':=List.map_congr_left fun x hx=>h x (by simp [Op.operands]; exact .inl (by simpa using hx))
  have h2:b.toList.map ρ=b.toList.map ρ':=List.map_congr_left fun x hx=>h x (by simp [Op.operands]; exact .inr (by simpa using hx))
  cases fn<;>simp only [h1,h2]
 case makeMap t r=>cases r<;>rfl
 case slice t x lo hi mx=>
  dsimp only
  have h0:ρ x=ρ' x:=h x (by simp [Op.operands])
  rw [h0,zjx (x:=lo) (ρ:=ρ) (ρ':=ρ') fun y hy=>h y (by simp only [Op.operands,Array.mem_append]; simp at hy ⊢; simp [hy]),
   zjx (x:=hi) (ρ:=ρ) (ρ':=ρ') fun y hy=>h y (by simp only [Op.operands,Array.mem_append]; simp at hy ⊢; simp [hy]),
   zjx (x:=mx) (ρ:=ρ) (ρ':=ρ') fun y hy=>h y (by simp only [Op.operands,Array.mem_append]; simp at hy ⊢; simp [hy])]
 all_goals
  simp [Op.operands] at h;simp only [h]
theorem zCr {o:Oper} {ρ ρ':Operand→V} (h:∀ x∈o.op.operands,ρ x=ρ' x) (L:Loc):aop P Γ o ρ L=aop P Γ o ρ' L:=by
 unfold aop;rw [zA5 h]
theorem zCs {slots:List V} {dst:Option Tmp} {v:V} {x:Operand} (h:∀ d,dst=some d→x≠.tmp d):zfb (putV slots dst v) x=zfb slots x:=by
 cases dst with
 | none=>rfl
 | some d=>
  cases x with
  | tmp t=>
   have:d≠t:=fun e=>h d rfl (by rw [e])
   simp only [zfb,putV,List.getD_eq_getElem?_getD,List.getElem?_set_ne this]
  | _=>rfl
theorem zt5 {o:Oper} {slots:List V} {dst:Option Tmp} {v:V} (h:∀ d,dst=some d→d ∉ o.looksAt ops):zhg ops (putV slots dst v) o=zhg ops slots o:=by
 cases dst with
 | none=>rfl
 | some d=>
  unfold zhg
  cases hg:o.guard with
  | none=>rfl
  | some gw=>
   obtain ⟨g,want⟩:=gw;dsimp only
   cases hd:(ops[g]?).bind (·.dst) with
   | none=>rfl
   | some d'=>
    have:d≠d':=by
     rintro rfl
     exact h d rfl (List.mem_append_right _ (by simp [hg,hd]))
    simp only [Option.bind_some,putV,List.getElem?_set_ne this]
theorem zGE {o:Oper} {vs:List V} {L L':Loc} (h:∀ g∈rdOf Γ o vs L',L g=L' g):rdOf Γ o vs L=rdOf Γ o vs L':=by
 unfold rdOf at*;congr 2;split
 ·rename_i hl;simp only [hl,if_true] at h
  have hc:∀ l:List Nat,(∀ g∈l,L g=L' g)→(l.flatMap fun g=>g::(match (L g).2 with | .vbox _ _ _ us=>V.idsL us | _=>[]))=l.flatMap fun g=>g::(match (L' g).2 with | .vbox _ _ _ us=>V.idsL us | _=>[]):=by
   intro l
   induction l with
   | nil=>intro _; rfl
   | cons g l ih=>
    intro hh;simp only [List.flatMap_cons]
    rw [hh g (by simp),ih fun g' hg'=>hh g' (by simp [hg'])]
  exact hc _ fun g hg=>h g (List.mem_append_left _ (List.mem_append_left _ (List.mem_flatMap.2 ⟨g,hg,by simp⟩)))
 ·rfl
theorem zA6 {L L':Loc} {rd:List Nat} (h:∀ g∈rd,L g=L' g):L.only rd=L'.only rd:=by
 funext g;unfold Loc.only;split
 ·rename_i hg; exact h g hg
 ·rfl
theorem zt6 {o:Oper} {s s':St} {out:Out} {f:Foot} (he:∀ x∈o.op.operands,zfb s'.slots x=zfb s.slots x) (hg:zhg ops s'.slots o=zhg ops s.slots o)
  (hL:∀ g∈f.rd,s'.L g=s.L g) (h:comp P Γ ops o s=some (out,f)):comp P Γ ops o s'=some (out,f):=by
 unfold comp at h ⊢;rw [hg];split at h
 ·cases h
 ·exact h
 ·dsimp only at h ⊢
  have hvs:o.op.operands.toList.map (zfb s'.slots)=o.op.operands.toList.map (zfb s.slots):=List.map_congr_left fun x hx=>he x (by simpa using hx)
  rw [hvs];split at h
  ·cases h
  rename_i hlt;rw [if_neg hlt]
  cases ha:aop P Γ o (zfb s.slots) (s.L.only (rdOf Γ o (o.op.operands.toList.map (zfb s.slots)) s.L)) with
  | none=>rw [ha] at h; cases h
  | some x=>
   rw [ha] at h;simp only [Option.bind_some] at h;injection h with h; injection h with h1 h2; subst h1; subst h2;dsimp only at hL;rw [zGE hL,zA6 hL,zCr he,ha];rfl
theorem zxn {wr:Wr}:∀ {L:Loc} {g:Nat},g ∉ wr.map (·.1)→L.upd wr g=L g:=by
 induction wr with
 | nil=>intros; rfl
 | cons x wr ih=>
  intro L g h;obtain ⟨k,y⟩:=x;simp only [List.map_cons,List.mem_cons,not_or] at h;rw [Loc.upd,ih h.2,Loc.set_ne _ _ h.1]
theorem zxo {wr:Wr}:∀ {L L':Loc} {g:Nat},L g=L' g→L.upd wr g=L'.upd wr g:=by
 induction wr with
 | nil=>intro L L' g h; exact h
 | cons x wr ih=>
  intro L L' g h;obtain ⟨k,y⟩:=x;rw [Loc.upd,Loc.upd];apply ih;unfold Loc.set;split
  ·rfl
  ·exact h
theorem zIg {wr:Wr}:∀ {L L':Loc} {g:Nat},g∈wr.map (·.1)→L.upd wr g=L'.upd wr g:=by
 induction wr with
 | nil=>intro L L' g h; simp at h
 | cons x wr ih=>
  intro L L' g h;obtain ⟨k,y⟩:=x;rw [Loc.upd,Loc.upd]
  by_cases hg:g∈wr.map (·.1)
  ·exact ih hg
  ·apply zxo;simp only [List.map_cons,List.mem_cons] at h;rcases h with h | h
   ·subst h; rw [Loc.set_same,Loc.set_same]
   ·exact absurd h hg
theorem zEx {a b:Wr} {L:Loc} (h:∀ g∈a.map (·.1),g ∉ b.map (·.1)):(L.upd a).upd b=(L.upd b).upd a:=by
 funext g
 by_cases ha:g∈a.map (·.1)
 ·rw [zxn (h g ha)]; exact zIg ha
 ·rw [zxn (wr:=a) ha];exact zxo (zxn ha)
def zqd (a b:Foot):Bool:=(a.quiet && b.quiet) || zGp a b
theorem zA7 {a b:Foot} (h:zqd a b=true):(∀ g∈a.wr,g ∉ b.rd)∧(∀ g∈b.wr,g ∉ a.rd)∧(∀ g∈a.wr,g ∉ b.wr):=by
 unfold zqd at h;rw [Bool.or_eq_true] at h;rcases h with h | h
 ·simp [Foot.quiet] at h;obtain ⟨h1,h3⟩:=h;rw [h1,h3]
  exact ⟨by simp,by simp,by simp⟩
 ·simp only [zGp,Bool.and_eq_true,List.all_eq_true,Bool.not_eq_true'] at h;obtain ⟨h1,h2⟩:=h
  refine ⟨fun g hg hb=>?_,fun g hg hb=>?_,fun g hg hb=>?_⟩
  ·have:=(h1 g hg).1; simp [hb] at this
  ·have:=h2 g hg; simp [hb] at this
  ·have:=(h1 g hg).2; simp [hb] at this
theorem zA8 {oi oj:Oper} {s s1 s2:St} {fi fj:Foot} (hap:oi.apart ops oj=true) (hin:zqd fi fj=true) (h1:zik P Γ ops oi s=some (s1,fi)) (h2:zik P Γ ops oj s1=some (s2,fj)):
  ∃ s1',zik P Γ ops oj s=some (s1',fj)∧zik P Γ ops oi s1'=some (s2,fi):=by
 rw [zpb] at h1 h2
 cases hc1:comp P Γ ops oi s with
 | none=>rw [hc1] at h1; cases h1
 | some p1=>
 obtain ⟨out1,f1⟩:=p1;rw [hc1] at h1;injection h1 with h1; injection h1 with e1 e2; subst e1; subst e2;dsimp only at h2 hin ⊢
 cases hc2:comp P Γ ops oj (act s oi.dst out1) with
 | none=>rw [hc2] at h2; cases h2
 | some p2=>
 obtain ⟨out2,f2⟩:=p2;rw [hc2] at h2;injection h2 with h2; injection h2 with e1 e2; subst e1; subst e2;dsimp only at hin ⊢;obtain ⟨a1,a2,a3⟩:=Oper.apart_spec hap;obtain ⟨i1,i2,i3⟩:=zA7 hin;have w1:=zxl hc1;have w2:=zxl hc2
 have hlook:∀ {o:Oper} {dst:Option Tmp} {v:V} {slots:List V},(∀ d,dst=some d→d ∉ o.looksAt ops)→∀ x∈o.op.operands,zfb (putV slots dst v) x=zfb slots x:=by
  intro o dst v slots hd x hx
  refine zCs fun d hdd hxd=>hd d hdd ?_
  subst hxd
  exact List.mem_append_left _ (List.mem_filterMap.2 ⟨.tmp d,by simpa using hx,rfl⟩)
 have c2:comp P Γ ops oj s=some (out2,f2):=by
  refine zt6 (s:=act s oi.dst out1) (fun x hx=>(hlook a1 x hx).symm) (zt5 a1).symm (fun g hg=>?_) hc2
  refine (zxn ?_).symm
  rw [←w1]; exact fun hh=>i1 g hh hg
 have c1:comp P Γ ops oi (act s oj.dst out2)=some (out1,f1):=by
  refine zt6 (s:=s) (fun x hx=>hlook a3 x hx) (zt5 a3) (fun g hg=>?_) hc1
  refine zxn ?_
  rw [←w2]; exact fun hh=>i2 g hh hg
 refine ⟨act s oj.dst out2,?_,?_⟩
 ·rw [zpb,c2]; rfl
 ·rw [zpb,c1];simp only [Option.map_some];congr 2;unfold act;congr 1
  ·cases hd1:oi.dst with
   | none=>rfl
   | some d1=>
    cases hd2:oj.dst with
    | none=>rfl
    | some d2=>
     have:d2≠d1:=fun e=>a2 d1 hd1 (by rw [hd2,e])
     exact List.set_comm _ _ this
  ·refine (zEx ?_).symm;rw [←w1,←w2]; exact i3
def AAny (P:Program) (Γ:Env) (ops:Array Oper) (fp:Nat→Foot) (Q:St→Prop):Nat→Array Bool→St→Prop
 | 0,listed,s=>Region.ready .any ops listed=[]∧Q s
 | n+1,listed,s=>(Region.ready .any ops listed=[]→Q s)∧
  ∀ i∈Region.ready .any ops listed,∃ o s',ops[i]? =some o∧zik P Γ ops o s=some (s',fp i)∧AAny P Γ ops fp Q n (listed.setIfInBounds i true) s'
theorem zCt {N:Nat} {w0:World} {O0:Nat→Prop} {γ0:E0} (hΓ:∀ f sp,Γ f=some sp→Sound P f sp) {fp:Nat→Foot} {K:St→Prop} {Q:Exit→Act→World→Prop}
  (hQ:∀ s a w,K s→Rel N w0 O0 γ0 s a w→Q .normal a w):∀ (n:Nat) (listed:Array Bool) (s:St) (a:Act) (w:World),AAny P Γ ops fp K n listed s→Rel N w0 O0 γ0 s a w→wpAny P .any ops Q n listed a w
 | 0,_,s,a,w,h,hr=>⟨h.1,hQ s a w h.2 hr⟩
 | n+1,listed,s,a,w,h,hr=>⟨fun h0=>hQ s a w (h.1 h0) hr,fun i hi=>by
   obtain ⟨o,s',ho,hst,hn⟩:=h.2 i hi
   exact zAa hΓ ho hst hr fun a' w' hr'=>zCt hΓ hQ n _ s' a' w' hn hr'⟩
inductive Ahead (ops:Array Oper) (i:Nat):Nat→Prop where
 | refl:Ahead ops i i
 | step (m j:Nat):Ahead ops i m→edge ops m j=true→Ahead ops i j
theorem zyM {i j:Nat} (h:j∈zGq ops i):Ahead ops i j:=by
 unfold zGq at h
 have:∀ (l acc:List Nat),(∀ j∈acc,Ahead ops i j)→∀ j∈l.foldl (fun acc j=>if acc.any (fun m=>edge ops m j) then j::acc else acc) acc,Ahead ops i j:=by
  intro l
  induction l with
  | nil=>intro acc ha j hj; exact ha j hj
  | cons k l ih=>
   intro acc ha j hj
   refine ih _ (fun q hq=>?_) j hj
   dsimp only at hq;split at hq
   ·rename_i hany;rcases List.mem_cons.1 hq with rfl | hq
    ·obtain ⟨m,hm,he⟩:=List.any_eq_true.1 hany;exact .step m q (ha m hm) he
    ·exact ha q hq
   ·exact ha q hq
 exact this _ [i] (fun j hj=>by simp at hj; subst hj; exact .refl) j h
theorem zxp {m j:Nat} (h:edge ops m j=true):∃ o,ops[j]? =some o∧∃ e∈o.after,Region.binds .any e=true∧e.on=m:=by
 unfold edge at h;split at h
 ·rename_i o ho;obtain ⟨e,he,hb⟩:=Array.any_eq_true'.1 h;simp only [Bool.and_eq_true,beq_iff_eq] at hb;exact ⟨o,ho,e,he,hb.1,hb.2⟩
 ·cases h
def zrB (ops:Array Oper) (listed:Array Bool):Prop:=∀ m o,ops[m]? =some o→listed.getD m false=true→∀ e∈o.after,Region.binds .any e=true→listed.getD e.on false=true
theorem zrB.set {listed:Array Bool} (h:zrB ops listed) {j:Nat} (hj:j∈Region.ready .any ops listed):zrB ops (listed.setIfInBounds j true):=by
 intro m o ho hm e he hb
 by_cases hjm:j=m
 ·subst hjm;obtain ⟨_,o',ho',hall⟩:=mem_ready.1 hj;rw [ho] at ho'; injection ho' with ho'; subst ho';exact getD_set_true (hall e he hb)
 ·rw [getD_set_ne false hjm] at hm;exact getD_set_true (h m o ho hm e he hb)
theorem zrB.reach {listed:Array Bool} (h:zrB ops listed) {i j:Nat} (hi:listed.getD i true=false) (hr:Ahead ops i j):listed.getD j false=false:=by
 induction hr with
 | refl=>
  rcases Nat.lt_or_ge i listed.size with h' | h'
  ·simp [h'] at hi ⊢; exact hi
  ·simp [Array.getElem?_eq_none h']
 | step m j _ he ih=>
  obtain ⟨o,ho,e,he1,he2,he3⟩:=zxp he
  cases hx:listed.getD j false with
  | false=>rfl
  | true=>
   have:=h j o ho hx e he1 he2;rw [he3,ih] at this; cases this
theorem zA9 {fp:Nat→Foot} {K:St→Prop} {i:Nat} {oi:Oper} (hi:ops[i]? =some oi):∀ (fuel:Nat) (listed:Array Bool) (s s1:St),
  zrB ops listed→(∀ j oj,ops[j]? =some oj→j≠i→listed.getD j true=false→(∀ e∈oj.after,Region.binds .any e=true→e.on≠i)→¬ Ahead ops i j→oi.apart ops oj=true∧zqd (fp i) (fp j)=true)→
  i∈Region.ready .any ops listed→zik P Γ ops oi s=some (s1,fp i)→AAny P Γ ops fp K fuel (listed.setIfInBounds i true) s1→AAny P Γ ops fp K (fuel+1) listed s:=by
 intro fuel
 induction fuel with
 | zero=>
  intro listed s s1 _ _ hr hst H
  refine ⟨fun h=>(by rw [h] at hr; cases hr),fun j hj=>?_⟩
  by_cases hji:j=i
  ·subst hji; exact ⟨oi,s1,hi,hst,H⟩
  ·have:=ready_mono hj hji;rw [H.1] at this
   cases this
 | succ fuel ih=>
  intro listed s s1 hcl hfree hr hst H
  refine ⟨fun h=>(by rw [h] at hr; cases hr),fun j hj=>?_⟩
  by_cases hji:j=i
  ·subst hji; exact ⟨oi,s1,hi,hst,H⟩
  ·obtain ⟨oj,s2,hoj,hst2,H2⟩:=H.2 j (ready_mono hj hji);obtain ⟨hjun,oj',hoj',hall⟩:=mem_ready.1 hj;rw [hoj] at hoj'; injection hoj' with hoj'; subst hoj'
   have hnot:∀ e∈oj.after,Region.binds .any e=true→e.on≠i:=fun e he hb heq=>by
    have h1:=hall e he hb;have h0:=(mem_ready.1 hr).1;rw [heq] at h1;rcases Nat.lt_or_ge i listed.size with h' | h'
    ·simp [h'] at h0 h1; rw [h0] at h1; cases h1
    ·simp [Array.getElem?_eq_none h'] at h1
   have hnr:¬ Ahead ops i j:=by
    intro h
    cases h with
    | refl=>exact hji rfl
    | step m _ hm he=>
     obtain ⟨o,ho,e,he1,he2,he3⟩:=zxp he;rw [hoj] at ho; injection ho with ho; subst ho;have h1:=hall e he1 he2;rw [he3,hcl.reach (mem_ready.1 hr).1 hm] at h1; cases h1
   obtain ⟨hap,hin⟩:=hfree j oj hoj hji hjun hnot hnr;obtain ⟨s1',k1,k2⟩:=zA8 hap hin hst hst2;refine ⟨oj,s1',hoj,k1,?_⟩
   refine ih (listed.setIfInBounds j true) s1' s2 (hcl.set hj) (fun k ok hk hki hun hno=>?_) (ready_mono hr (Ne.symm hji)) k2 ?_
   ·refine hfree k ok hk hki ?_ hno
    by_cases hjk:j=k
    ·subst hjk; exact hjun
    ·rw [getD_set_ne true hjk] at hun; exact hun
   ·rw [Array.setIfInBounds_comm _ _ hji];exact H2
theorem zAb {fp:Nat→Foot} {K:St→Prop} (hfp:∀ i j oj,i < j→ops[j]? =some oj→(∀ e∈oj.after,Region.binds .any e=true→e.on≠i)→¬ Ahead ops i j→zqd (fp i) (fp j)=true):
  ∀ (l:List Oper) (k:Nat) (listed:Array Bool) (s s':St) (log:List Foot),zrB ops listed→(∀ j,l[j]? =ops[k+j]?)→(∀ j,listed.getD j true=false→k≤j)→
  Region.lexFrom .any ops l.length k listed=true→zmW P Γ ops l s=some (s',log)→(∀ j,j < l.length→log[j]? =some (fp (k+j)))→K s'→AAny P Γ ops fp K l.length listed s
 | [],_,_,s,s',log,_,_,_,hB,h,_,hK=>by
  simp only [zmW,Option.some.injEq,Prod.mk.injEq] at h;rw [h.1]
  exact ⟨by simpa [Region.lexFrom] using hB,hK⟩
 | o::l,k,listed,s,s',log,hcl,hl,hk,hB,h,hlog,hK=>by
  have h0:ops[k]? =some o:=by simpa using (hl 0).symm
  simp only [List.length_cons,Region.lexFrom,Bool.and_eq_true] at hB;obtain ⟨⟨hr,hf⟩,hB'⟩:=hB;simp only [zmW] at h
  cases hst:zik P Γ ops o s with
  | none=>rw [hst] at h; cases h
  | some p=>
   obtain ⟨s1,f⟩:=p;rw [hst] at h;simp only [Option.bind_some] at h
   cases hrest:zmW P Γ ops l s1 with
   | none=>rw [hrest] at h; cases h
   | some q=>
    obtain ⟨s2,log'⟩:=q;rw [hrest] at h;simp only [Option.map_some,Option.some.injEq,Prod.mk.injEq] at h;obtain ⟨e1,e2⟩:=h;subst e1; subst e2
    have hf0:f=fp k:=by simpa using hlog 0 (by simp)
    subst hf0
    refine zA9 h0 l.length listed s s1 hcl (fun j oj hj hne hun hno hnr=>⟨Region.free_spec h0 hf j oj hj hne hun hno,hfp k j oj ?_ hj hno hnr⟩) (by simpa using hr) hst ?_
    ·have:=hk j hun; omega
    ·refine zAb hfp l (k+1) _ s1 s2 log' (hcl.set (by simpa using hr)) (fun j=>by have:=hl (j+1); simpa [Nat.add_assoc,Nat.add_comm 1 j] using this) (fun j hj=>?_) hB' hrest (fun j hj=>?_) hK
     ·by_cases hjk:k=j
      ·subst hjk
       have hlt:k < listed.size∨¬ k < listed.size:=Nat.lt_or_ge _ _ |>.imp id (by omega)
       rcases hlt with hlt | hlt
       ·simp [hlt] at hj
       ·simp [hlt] at hj
      ·rw [getD_set_ne true hjk] at hj;have:=hk j hj; omega
     ·have:=hlog (j+1) (by simpa using hj)
      simpa [Nat.add_assoc,Nat.add_comm 1 j] using this
theorem zkL:∀ {l:List Oper} {s s':St} {log:List Foot},zmW P Γ ops l s=some (s',log)→log.length=l.length
 | [],_,_,_,h=>by simp only [zmW,Option.some.injEq,Prod.mk.injEq] at h; rw [←h.2]; rfl
 | o::l,s,s',log,h=>by
  simp only [zmW] at h
  cases hst:zik P Γ ops o s with
  | none=>rw [hst] at h; cases h
  | some p=>
   rw [hst] at h;simp only [Option.bind_some] at h
   cases hrest:zmW P Γ ops l p.1 with
   | none=>rw [hrest] at h; cases h
   | some q=>
    rw [hrest] at h;simp only [Option.map_some,Option.some.injEq,Prod.mk.injEq] at h;rw [←h.2];simp [zkL (s':=q.1) (log:=q.2) hrest]
theorem zEy {log:List Foot} (h:chk ops log=true) {i j:Nat} {a b:Foot} {oj:Oper} (hij:i < j) (ha:log[i]? =some a) (hb:log[j]? =some b) (hj:ops[j]? =some oj)
  (hno:∀ e∈oj.after,Region.binds .any e=true→e.on≠i) (hnr:¬ Ahead ops i j):zqd a b=true:=by
 unfold chk at h;rw [Bool.or_eq_true] at h;rcases h with h | h
 ·rw [List.all_eq_true] at h;unfold zqd;rw [h a (List.mem_of_getElem? ha),h b (List.mem_of_getElem? hb)]; rfl
 ·rw [List.all_eq_true] at h;have h1:=h i (List.mem_range.2 (List.getElem?_eq_some_iff.1 ha).1);rw [List.all_eq_true] at h1;have h2:=h1 j (List.mem_range.2 (List.getElem?_eq_some_iff.1 hb).1);rw [ha,hb] at h2;simp only [Bool.or_eq_true,Bool.not_eq_true',decide_eq_false_iff_not] at h2;rcases h2 with (h2 | h2) | h2
  ·exact absurd hij h2
  ·simp only [edge,hj] at h2;obtain ⟨e,he,hbb⟩:=Array.any_eq_true'.1 h2;simp only [Bool.and_eq_true,beq_iff_eq] at hbb;exact absurd hbb.2 (hno e he hbb.1)
  ·rcases h2 with h2 | h2
   ·unfold zqd; simpa using h2
   ·exact absurd (zyM (by simpa using h2)) hnr
section
variable {N:Nat} {w0:World} {O0:Nat→Prop} {γ0:E0}
theorem Rel.drew {s:St} {a:Act} {w:World} (h:Rel N w0 O0 γ0 s a w):Rel N w0 O0 γ0 s a w.drew:=by
 obtain ⟨c,h⟩:=h;obtain ⟨m,g⟩:=h.mem.drew;exact ⟨c,m,h.slots.grow g,h.defers,h.hγ,h.stay,RelC.given' h.given g,h.cells⟩
theorem zxq (hΓ:∀ f sp,Γ f=some sp→Sound P f sp) (hP:P.follows .mixedOrders=true) (hlex:Region.lexB .any ops=true) {id:Nat} {s s':St} {log:List Foot}
  (h:zmW P Γ ops ops.toList s=some (s',log)) (hc:chk ops log=true) {a:Act} {w:World} (hr:Rel N w0 O0 γ0 s a w) {Q:Exit→Act→World→Prop}
  (hQ:∀ a w,Rel N w0 O0 γ0 s' a w→Q .normal a w):(Code.region id ops true).wp P Q a w:=by
 simp only [Region.lexB,Bool.and_eq_true] at hlex;refine wp_region_any hP ?_
 have hA:AAny P Γ ops (fun i=>log.getD i {}) (fun s=>s=s') ops.toList.length (Array.replicate ops.size false) s:=by
  refine zAb ?_ ops.toList 0 _ s s' log (fun m o ho hm=>by
   have hlt:m < ops.size:=(Array.getElem?_eq_some_iff.1 ho).1
   simp [hlt] at hm) (by simp) (by simp) (by simpa using hlex.2) h (fun j hj=>?_) rfl
  ·intro i j oj hij hj hno hnr
   have hjl:j < log.length:=by rw [zkL h]; simpa using (Array.getElem?_eq_some_iff.1 hj).1
   have e1:=List.getElem?_eq_getElem hjl
   have e2:=List.getElem?_eq_getElem (show i < log.length by omega)
   rw [List.getD_eq_getElem?_getD,List.getD_eq_getElem?_getD,e1,e2];exact zEy hc hij e2 e1 hj hno hnr
  ·have hjl:j < log.length:=by rw [zkL h]; exact hj
   have e1:=List.getElem?_eq_getElem hjl;rw [Nat.zero_add,List.getD_eq_getElem?_getD,e1]; rfl
 have:=zCt (N:=N) (w0:=w0) (O0:=O0) (γ0:=γ0) (Q:=Q) hΓ (K:=fun s=>s=s') (fun s a w hs hr=>by subst hs; exact hQ a w hr) _ _ s a w.drew hA (hr.drew)
 simpa using this
theorem zCu (hΓ:∀ f sp,Γ f=some sp→Sound P f sp) {Q:Exit→Act→World→Prop}:∀ (l:List Oper) (k:Nat) (s s':St) (a:Act) (w:World),(∀ j,l[j]? =ops[k+j]?)→
  arun P Γ ops l s=some s'→Rel N w0 O0 γ0 s a w→(∀ a w,Rel N w0 O0 γ0 s' a w→Q .normal a w)→wpOps P ops Q (List.range' k l.length) a w
 | [],k,s,s',a,w,_,h,hr,hQ=>by
  simp only [arun,Option.some.injEq] at h;subst h
  exact hQ a w hr
 | o::l,k,s,s',a,w,hl,h,hr,hQ=>by
  have h0:ops[k]? =some o:=by simpa using (hl 0).symm
  simp only [arun] at h
  cases hst:zik P Γ ops o s with
  | none=>rw [hst] at h; cases h
  | some p=>
   obtain ⟨s1,f⟩:=p;rw [hst] at h;simp only [Option.bind_some] at h;simp only [List.length_cons,List.range'_succ];rw [wpOps_cons]
   exact zAa hΓ h0 hst hr fun a' w' hr'=>zCu hΓ l (k+1) s1 s' a' w' (fun j=>by have:=hl (j+1); simpa [Nat.add_assoc,Nat.add_comm 1 j] using this) h hr' hQ
theorem zyN (hΓ:∀ f sp,Γ f=some sp→Sound P f sp) {id:Nat} {s s':St} (h:arun P Γ ops ops.toList s=some s') {a:Act} {w:World} (hr:Rel N w0 O0 γ0 s a w)
  {Q:Exit→Act→World→Prop} (hQ:∀ a w,Rel N w0 O0 γ0 s' a w→Q .normal a w):(Code.region id ops false).wp P Q a w:=by
 refine wp_region ?_
 have:=zCu (Q:=Q) hΓ ops.toList 0 s s' a w (by simp) h hr hQ
 rw [List.range_eq_range'];simpa using this
end
end
end Wf

namespace Wf
open Go Go.RowKit
theorem zqe {L L':Loc} {g:Nat} (h:L' g=L g) (n:Nat):L'.get g n=L.get g n:=by unfold Loc.get; rw [h]
theorem zAc {L L':Loc} {k:Nat} (h:L' (tb k)=L (tb k)) (n i o:Nat):zeE L' k n i o=zeE L k n i o:=by unfold zeE zl8; rw [zqe h]
theorem zEz {L L':Loc} {k:Nat} (h:L' (tb k)=L (tb k)) (n i o:Nat):ziE L' k n i o=ziE L k n i o:=by unfold ziE zl8; rw [zqe h]
theorem zF2:∀ {ks:List Nat} {vs cs:List V} {i:Nat} {v:V},(ovs ks vs cs)[i]? =some v→v∈vs∨v∈cs
 | [],vs,cs,i,v,h=>.inr (List.mem_of_getElem? (by simpa [ovs] using h))
 | _::_,[],cs,i,v,h=>.inr (List.mem_of_getElem? (by simpa [ovs] using h))
 | k::ks,x::vs,cs,i,v,h=>by
  simp only [ovs,List.getElem?_set] at h;split at h
  ·split at h
   ·injection h with h; subst h; exact .inl (by simp)
   ·cases h
  ·rcases zF2 h with h | h
   ·exact .inl (by simp [h])
   ·exact .inr h
theorem zGF {ks:List Nat} {vs:List V} {ds:List D} {i:Nat} {v:V} (h:(ovs ks vs (ds.map .d))[i]? =some v) {g:Nat} (hg:g∈v.ids):g∈V.idsL vs:=by
 rcases zF2 h with h | h
 ·exact zg1 h hg
 ·obtain ⟨d,_,rfl⟩:=List.mem_map.1 h;simp [V.ids] at hg
theorem TabRel.fewer {L L':Loc} {c:Ctx} {R:Nat→Prop} {w:World} (h:TabRel L c R w) (hT:∀ k x,za6 L' k=some x→za6 L k=some x):TabRel L' c R w:=by
 have ht:∀ k i q,zcq L' k i q→zcq L k i q:=fun k i q h=>h.of fun wr T e=>⟨wr,hT k _ e⟩
 exact ⟨fun k wr T i cs h1 h2=>h.obj k wr T i cs (hT _ _ h1) h2,fun k wr T i b h1 h2=>h.tight k wr T i b (hT _ _ h1) h2,fun k i q k' i' q' b h1 h2 h3 h4=>h.inj k i q k' i' q' b (ht _ _ _ h1) (ht _ _ _ h2) h3 h4,
  fun k T i q b h1 h2 h3=>h.wr k T i q b (hT _ _ h1) (ht _ _ _ h2) h3,fun k T i q b h1 h2 h3=>h.ro k T i q b (hT _ _ h1) (ht _ _ _ h2) h3⟩
theorem Val.drop {c:Ctx} {L L':Loc} {w:World} {N:Nat} {v:V} {u:Value} (h:Val c L w N v u) (hown:∀ b,own c L' b→own c L b):(∀ g∈v.ids,L' g=L g)→Val c L' w N v u:=by
 induction h with
 | d x v h=>exact fun _=>.d _ _ (h.out hown (Nat.le_refl _))
 | p k x v h=>exact fun _=>.p _ _ _ (h.out hown (Nat.le_refl _))
 | vref k n i o lo len v h1 h2=>
  intro hi
  have e:=hi (tb k) (by simp [V.ids])
  exact .vref k n i o lo len v (by rw [e]; exact h1) (by rw [zAc e]; exact h2)
 | vept k n i o j off v h1 h2=>
  intro hi
  have e:=hi (tb k) (by simp [V.ids])
  exact .vept k n i o j off v (by rw [e]; exact h1) (by rw [zAc e]; exact h2)
 | vmap k n i o v h1 h2=>
  intro hi
  have e:=hi (tb k) (by simp [V.ids])
  exact .vmap k n i o v (by rw [e]; exact h1) (by rw [zEz e]; exact h2)
 | agg ds ks vs us h1 _ h3 ih=>
  intro hi
  exact .agg ds ks vs us h1 (fun i v u ha hu=>ih i v u ha hu fun g hg=>hi g (by simp only [V.ids]; exact zGF ha hg)) h3
 | ptr g n off v h1 h2=>
  intro hi
  have e:=hi g (by simp [V.ids])
  exact .ptr g n off v (by rw [e]; exact h1) (by rw [zqe e]; exact h2)
 | ept g n i off v h1 h2=>
  intro hi
  have e:=hi g (by simp [V.ids])
  exact .ept g n i off v (by rw [e]; exact h1) (by rw [zqe e]; exact h2)
 | ref g n off len v h1 h2 h3=>
  intro hi
  have e:=hi g (by simp [V.ids])
  exact .ref g n off len v (by rw [e]; exact h1) (by rw [zqe e]; exact h2) (by rw [zqe e]; exact h3)
 | bref g n off len v h1 h2=>
  intro hi
  have e:=hi g (by simp [V.ids])
  exact .bref g n off len v (by rw [e]; exact h1) (by rw [zqe e]; exact h2)
 | map g n v h1 h2=>
  intro hi
  have e:=hi g (by simp [V.ids])
  exact .map g n v (by rw [e]; exact h1) (by rw [zqe e]; exact h2)
 | clo f a b va vb h1 h2 _ _ ih1 ih2=>
  intro hi
  refine .clo f a b va vb h1 h2 (fun i v u ha hu=>ih1 i v u ha hu fun g hg=>hi g ?_) (fun i v u ha hu=>ih2 i v u ha hu fun g hg=>hi g ?_)
  ·simp only [V.ids,List.mem_append]; exact .inl (zg1 (List.mem_of_getElem? ha) hg)
  ·simp only [V.ids,List.mem_append]; exact .inr (zg1 (List.mem_of_getElem? ha) hg)
 | tup l vs h1 _ ih=>
  intro hi
  refine .tup l vs h1 fun i v u ha hu=>ih i v u ha hu fun g hg=>hi g ?_
  simp only [V.ids]; exact zg1 (List.mem_of_getElem? ha) hg
section
variable {P:Program} {Γ:Env} {N:Nat} {w0:World} {O0:Nat→Prop} {γ0:E0}
def AExit.real:AExit→Exit
 | .normal=>.normal
 | .exit id=>.exit id
 | .ret=>.ret
theorem zGG (p:Nat→Prop) (h:∃ n,p n):∃ n,p n∧∀ m,p m→n≤m:=by
 obtain ⟨n,hn⟩:=h
 induction n using Nat.strongRecOn with
 | _ n ih=>
  by_cases hx:∃ m,m < n∧p m
  ·obtain ⟨m,h1,h2⟩:=hx; exact ih m h1 h2
  ·exact ⟨n,hn,fun m hm=>Nat.le_of_not_lt fun hh=>hx ⟨m,hh,hm⟩⟩
end
end Wf

namespace Wf
open Go Go.RowKit
mutual
def D.free:D→Bool
 | .agg cs=>D.freeL cs
 | .sl .fresh l | .sl .full l | .sl .nil l=>D.freeL l
 | .fn _ a b=>D.freeL a && D.freeL b
 | .mp .own _ es=>D.freeE es
 | .sl _ _ | .at_ _ | .tup _ | .mp _ _ _=>false
 | _=>true
def D.freeL:List D→Bool
 | []=>true
 | d::r=>d.free && D.freeL r
def D.freeE:List (Int×D)→Bool
 | []=>true
 | p::r=>D.freeP p && D.freeE r
def D.freeP:Int×D→Bool
 | (_,d)=>d.free
end
mutual
def D.lent:D→D
 | .agg cs=>.agg (D.lentL cs)
 | .sl .nil l=>.sl .nil (D.lentL l)
 | .sl .nn []=>.sl .nn []
 | .sl .nul []=>.sl .nul []
 | .sl _ l=>.sl .lent (D.lentL l)
 | .mp _ k es=>.mp .lent k (D.lentE es)
 | .fn f a b=>.fn f (D.lentL a) (D.lentL b)
 | .at_ d=>.at_ d.lent
 | .tup l=>.tup (D.lentL l)
 | d=>d
def D.lentL:List D→List D
 | []=>[]
 | d::r=>d.lent::D.lentL r
def D.lentE:List (Int×D)→List (Int×D)
 | []=>[]
 | p::r=>D.lentP p::D.lentE r
def D.lentP:Int×D→Int×D
 | (n,d)=>(n,d.lent)
end
theorem zkM {d:D}:∀ {l:List D},D.freeL l=true→d∈l→d.free=true
 | [],_,h=>by cases h
 | x::l,h,hd=>by
  simp only [D.freeL,Bool.and_eq_true] at h;rcases List.mem_cons.1 hd with e | e
  ·subst e; exact h.1
  ·exact zkM h.2 e
theorem zrC {p:Int×D}:∀ {l:List (Int×D)},D.freeE l=true→p∈l→p.2.free=true
 | [],_,h=>by cases h
 | x::l,h,hd=>by
  simp only [D.freeE,Bool.and_eq_true] at h;rcases List.mem_cons.1 hd with e | e
  ·subst e;have:=h.1;obtain ⟨n,d⟩:=p;simpa only [D.freeP] using this
  ·exact zrC h.2 e
theorem zCv {l:List D}:D.freeL l=l.all D.free:=by
 induction l with
 | nil=>rfl
 | cons d l ih=>simp [D.freeL,ih]
theorem ziP (l:List D):D.lentL l=l.map D.lent:=by
 induction l with
 | nil=>rfl
 | cons d l ih=>simp [D.lentL,ih]
theorem zxr (l:List (Int×D)):D.lentE l=l.map fun p=>(p.1,p.2.lent):=by
 induction l with
 | nil=>rfl
 | cons p l ih=>obtain ⟨n,d⟩:=p; simp [D.lentE,D.lentP,ih]
theorem Rep.free {w:World} {A A':Nat→Prop} {N:Nat} {γ} {d:D} {u:Value} (h:Rep w A N γ d u) (hA:∀ b,A' b→A b∨b < N):d.free=true→Rep w A' N γ d u:=by
 induction h with
 | undef v=>exact fun _=>.undef v
 | bool b=>exact fun _=>.bool b
 | int k n=>exact fun _=>.int k n
 | str s=>exact fun _=>.str s
 | nilp=>exact fun _=>.nilp
 | nilm=>exact fun _=>.nilm
 | nilfn=>exact fun _=>.nilfn
 | agg cs vs h1 _ h3 ih=>
  intro hf;simp only [D.free] at hf
  exact .agg cs vs h1 (fun i d v hd hv=>ih i d v hd hv (zkM hf (List.mem_of_getElem? hd))) h3
 | tup cs vs h1 _ ih=>intro hf; cases hf
 | fn f a b va vb h1 h2 _ _ ih1 ih2=>
  intro hf;simp only [D.free,Bool.and_eq_true] at hf
  exact .fn f a b va vb h1 h2 (fun i d v hd hv=>ih1 i d v hd hv (zkM hf.1 (List.mem_of_getElem? hd))) (fun i d v hd hv=>ih2 i d v hd hv (zkM hf.2 (List.mem_of_getElem? hd)))
 | slE t a cap h h' h''=>exact fun _=>.slE t a cap h h' h''
 | sl t l b o sz cap vs h1 h1' h2 h3 h4 h5 h6 _ h8 ih=>
  intro hf
  have hl:D.freeL l=true∧t≠.lent:=by cases t<;>simp_all [D.free]
  refine .sl t l b o sz cap vs h1 h1' h2 h3 (fun hb=>?_) h5 h6 (fun i d hd=>ih i d hd (zkM hl.1 (List.mem_of_getElem? hd))) h8
  rcases hA b hb with h | h
  ·exact h4 h
  ·have:=h5 hl.2; omega
 | at_ d v b o h1 h2 h3 _ ih=>intro hf; cases hf
 | h k i off b hn=>exact fun _=>.h k i off b hn
 | mp t k es b m ck h1 h2 h3 h4 h5 h6 _ ih=>
  intro hf
  have hl:D.freeE es=true∧t=.own:=by cases t<;>simp_all [D.free]
  refine .mp t k es b m ck (fun hb=>?_) h2 h3 h4 h5 h6 fun i e p he hp=>ih i e p he hp (zrC hl.1 (List.mem_of_getElem? hp))
  rcases hA b hb with h | h
  ·exact h1 h
  ·have:=h2 hl.2; omega
theorem Rep.lent {w:World} {A:Nat→Prop} {N:Nat} {γ} {d:D} {u:Value} (h:Rep w A N γ d u) (N':Nat):Rep w A N' γ d.lent u:=by
 have hget:∀ {l:List D} {i:Nat} {d:D},(D.lentL l)[i]? =some d→∃ e,l[i]? =some e∧d=e.lent:=by
  intro l i d hd;rw [ziP,List.getElem?_map] at hd
  cases he:l[i]? with
  | none=>rw [he] at hd; cases hd
  | some e=>rw [he] at hd; injection hd with hd; exact ⟨e,rfl,hd.symm⟩
 have hgetE:∀ {l:List (Int×D)} {i:Nat} {p:Int×D},(D.lentE l)[i]? =some p→∃ e,l[i]? =some e∧p=(e.1,e.2.lent):=by
  intro l i d hd;rw [zxr,List.getElem?_map] at hd
  cases he:l[i]? with
  | none=>rw [he] at hd; cases hd
  | some e=>rw [he] at hd; injection hd with hd; exact ⟨e,rfl,hd.symm⟩
 have hlen:∀ l:List D,(D.lentL l).length=l.length:=fun l=>by rw [ziP]; simp
 have hlenE:∀ l:List (Int×D),(D.lentE l).length=l.length:=fun l=>by rw [zxr]; simp
 induction h with
 | undef v=>exact .undef v
 | bool b=>exact .bool b
 | int k n=>exact .int k n
 | str s=>exact .str s
 | nilp=>exact .nilp
 | nilm=>exact .nilm
 | nilfn=>exact .nilfn
 | agg cs vs h1 _ h3 ih=>
  exact .agg _ vs (by rw [hlen]; exact h1) (fun i d v hd hv=>by obtain ⟨e,he,rfl⟩:=hget hd; exact ih i e v he hv) h3
 | tup cs vs h1 _ ih=>
  exact .tup _ vs (by rw [hlen]; exact h1) (fun i d v hd hv=>by obtain ⟨e,he,rfl⟩:=hget hd; exact ih i e v he hv)
 | fn f a b va vb h1 h2 _ _ ih1 ih2=>
  exact .fn f _ _ va vb (by rw [hlen]; exact h1) (by rw [hlen]; exact h2) (fun i d v hd hv=>by obtain ⟨e,he,rfl⟩:=hget hd; exact ih1 i e v he hv)
   (fun i d v hd hv=>by obtain ⟨e,he,rfl⟩:=hget hd; exact ih2 i e v he hv)
 | slE t a cap h h' h''=>
  cases t with
  | nil=>exact .slE .nil a cap (fun h=>by cases h) h' (by simp)
  | nn=>exact .slE .nn a cap (fun h=>by cases h) (by simp) h''
  | nul=>exact .slE .nul a cap (fun h=>by cases h) (by simp) h''
  | _=>exact .slE .lent a cap (fun h=>by cases h) (fun h=>by cases h) (by simp)
 | sl t l b o sz cap vs h1 h1' h2 h3 h4 h5 h6 _ h8 ih=>
  have:=Rep.sl (w:=w) (A:=A) (N:=N') (γ:=γ) .lent (D.lentL l) b o sz cap vs (by intro h; apply h1; have:=hlen l; rw [h] at this; exact List.eq_nil_of_length_eq_zero this.symm) (by simp)
   (by rw [hlen]; exact h2) (fun h=>by cases h) h4 (fun h=>absurd rfl h) h6 (fun i d hd=>by obtain ⟨e,he,rfl⟩:=hget hd; exact ih i e he) (fun i hi=>h8 i (by rw [hlen] at hi; exact hi))
  rw [hlen] at this
  cases t with
  | nil=>exact absurd rfl h1'
  | nn=>cases l with
   | nil=>exact absurd rfl h1
   | cons d l=>exact this
  | nul=>cases l with
   | nil=>exact absurd rfl h1
   | cons d l=>exact this
  | _=>exact this
 | at_ d v b o h1 h2 h3 _ ih=>exact .at_ _ v b o h1 h2 h3 ih
 | h k i off b hn=>exact .h k i off b hn
 | mp t k es b m ck h1 h2 h3 h4 h5 h6 _ ih=>
  exact .mp .lent k (D.lentE es) b m ck h1 (fun h=>by cases h) h3 h4 (by rw [hlenE]; exact h5) (fun i e p he hp=>by obtain ⟨q,hq,rfl⟩:=hgetE hp; exact h6 i e q he hq)
   (fun i e p he hp=>by obtain ⟨q,hq,rfl⟩:=hgetE hp; exact ih i e q he hq)
end Wf

namespace Wf
open Go Go.RowKit
def zBa (P:Program) (s:St):ResultVar→Option V
 | .tmp t=>some (s.slots.getD t (.d .undef))
 | .cell a t=>zAX P s.L t (s.slots.getD a (.d .undef))
def zIh (sz:Nat):V→Bool
 | .ref _ _ _ _=>decide (0 < sz)
 | .map _ _=>true
 | .p _ _=>true
 | _=>false
def prep:Loc→List Nat→List V→Option (List V×Loc)
 | L,[],[]=>some ([],L)
 | L,sz::szs,v::vs=>if zIh sz v=true then (prep L szs vs).map fun x=>(v::x.1,x.2) else (toD L v).bind fun y=>(prep (L.upd y.2) szs vs).map fun x=>(.d y.1::x.1,x.2)
 | _,_,_=>none
def zn2 (L:Loc) (sz:Nat):V→Option (Option Nat×D)
 | .d (.sl .full [])=>some (none,if 0 < sz then .sl .own [] else .sl .full [])
 | .d (.sl .nil [])=>some (none,if 0 < sz then .sl .own [] else .sl .nil [])
 | .d x=>if x.free=true then some (none,x) else none
 | .p _ x=>if x.free=true then some (none,x) else none
 | .ref g n off len=>match off,L.get g n with
  | 0,.arr sz' els true=>if len=els.length∧sz'=sz∧els.all D.free=true∧(g < 90000∨n=0) then some (some g,.sl .own els) else none
  | _,_=>none
 | .map g n=>match L.get g n with
  | .map kk es=>if g < 90000∧D.freeE es=true then some (none,.mp .own kk es) else none
  | _=>none
 | _=>none
def zxs (L:Loc):List Nat→List V→Option (List (Option Nat×D))
 | [],[]=>some []
 | sz::szs,v::vs=>(zn2 L sz v).bind fun x=>(zxs L szs vs).map fun r=>x::r
 | _,_=>none
def zh8:List (Option Nat)→Bool
 | []=>true
 | none::r=>zh8 r
 | some g::r=> !(r.contains (some g)) && zh8 r
def ares (P:Program) (ro:Nat→Bool) (res:List ResultVar) (szs:List Nat) (s:St):Option (D×Loc):=
 (res.mapM (zBa P s)).bind fun vs0=>(prep s.L szs vs0).bind fun y=>(zxs y.2 szs y.1).bind fun rs=>
  if zh8 (rs.map (·.1))=true∧(rs.all fun x=>match x.1 with | some g=>ro g | none=>true)=true then (match rs with
   | [(_,d)]=>some (d,y.2)
   | rs=>some (.tup (rs.map (·.2)),y.2)) else none
theorem zg3:∀ {l:List (Option Nat)},zh8 l=true→∀ (i j g:Nat),l[i]? =some (some g)→l[j]? =some (some g)→i=j
 | [],_,i,j,g,h,_=>by simp at h
 | none::l,h,i,j,g,hi,hj=>by
  cases i with
  | zero=>simp at hi
  | succ i=>
   cases j with
   | zero=>simp at hj
   | succ j=>rw [zg3 (l:=l) h i j g (by simpa using hi) (by simpa using hj)]
 | some k::l,h,i,j,g,hi,hj=>by
  simp only [zh8,Bool.and_eq_true,Bool.not_eq_true',List.contains_eq_mem,decide_eq_false_iff_not] at h
  cases i with
  | zero=>
   cases j with
   | zero=>rfl
   | succ j=>
    simp at hi hj;subst hi
    exact absurd (List.mem_of_getElem? hj) h.1
  | succ i=>
   cases j with
   | zero=>
    simp at hi hj;subst hj
    exact absurd (List.mem_of_getElem? hi) h.1
   | succ j=>rw [zg3 (l:=l) h.2 i j g (by simpa using hi) (by simpa using hj)]
theorem zt7 {L:Loc}:∀ {szs:List Nat} {vs:List V} {rs:List (Option Nat×D)},zxs L szs vs=some rs→szs.length=rs.length∧vs.length=rs.length∧
  ∀ (i:Nat) (sz:Nat) (v:V) (x:Option Nat×D),szs[i]? =some sz→vs[i]? =some v→rs[i]? =some x→zn2 L sz v=some x
 | [],[],rs,h=>by injection h with h; subst h; exact ⟨rfl,rfl,by simp⟩
 | [],_::_,_,h=>by cases h
 | _::_,[],_,h=>by cases h
 | sz::szs,v::vs,rs,h=>by
  simp only [zxs] at h
  cases h1:zn2 L sz v with
  | none=>rw [h1] at h; cases h
  | some x=>
   rw [h1] at h;simp only [Option.bind_some] at h
   cases h2:zxs L szs vs with
   | none=>rw [h2] at h; cases h
   | some r=>
    rw [h2] at h;injection h with h; subst h;obtain ⟨p1,p2,p3⟩:=zt7 h2
    refine ⟨by simp [p1],by simp [p2],fun i sz' v' x' e1 e2 e3=>?_⟩
    cases i with
    | zero=>simp at e1 e2 e3; subst e1; subst e2; subst e3; exact h1
    | succ i=>exact p3 i sz' v' x' (by simpa using e1) (by simpa using e2) (by simpa using e3)
section
variable {P:Program} {N:Nat} {w0:World} {O0:Nat→Prop} {γ0:E0}
theorem zEA {c:Ctx} {s:St} {a:Act} {w:World} (hr:RelC N w0 O0 γ0 c s a w) {x:ResultVar} {v:V} (h:zBa P s x=some v):
  ∃ u,(match x with | .tmp t=>pure (a.tmps.getD t undef) | .cell q t=>(do loadVar t (←asAddr (a.tmps.getD q undef))):Sem Value).run P w=.ok u w∧Val c s.L w N v u:=by
 cases x with
 | tmp t=>
  injection h with h; subst h
  exact ⟨_,rfl,zq2 hr.slots (.tmp t)⟩
 | cell q t=>
  simp only [zBa] at h
  obtain ⟨u,k1,k2⟩:=zzU hr.mem (Lr:=s.L) (fun _ _ _=>rfl) h (zq2 hr.slots (.tmp q))
  refine ⟨u,?_,k2⟩;simp only [Act.eval] at k1;dsimp only;generalize a.tmps.getD q undef=p at*;rw [←k1]
  cases p with
  | pointer y=>
   cases y with
   | none=>simp [Instr.loadAt,Instr.sureAddr] at k1
   | some y=>simp [Instr.loadAt,asAddr,Instr.sureAddr]
  | _=>simp [Instr.loadAt,Instr.sureAddr] at k1
theorem zCw {α β γ:Type} {P:Program} {w:World} {f:α→Sem γ} {g:α→Option β} {R:β→γ→Prop}:∀ (l:List α) (r:List β),l.mapM g=some r→(∀ x v,g x=some v→∃ u,(f x).run P w=.ok u w∧R v u)→
  ∃ us,(l.mapM f).run P w=.ok us w∧us.length=r.length∧∀ (i:Nat) (v:β) (u:γ),r[i]? =some v→us[i]? =some u→R v u
 | [],r,h,_=>by simp at h; subst h; exact ⟨[],by simp,rfl,by simp⟩
 | x::l,r,h,hf=>by
  simp only [List.mapM_cons] at h
  cases h1:g x with
  | none=>rw [h1] at h; cases h
  | some v=>
   rw [h1] at h
   cases h2:l.mapM g with
   | none=>rw [h2] at h; cases h
   | some r'=>
    rw [h2] at h;injection h with h; subst h;obtain ⟨u,k1,k2⟩:=hf x v h1;obtain ⟨us,q1,q2,q3⟩:=zCw l r' h2 hf
    refine ⟨u::us,by simp [List.mapM_cons,k1,q1],by simp [q2],fun i v' u' e1 e2=>?_⟩
    cases i with
    | zero=>simp at e1 e2; subst e1; subst e2; exact k2
    | succ i=>exact q3 i v' u' (by simpa using e1) (by simpa using e2)
theorem zyO {c:Ctx} {w:World}:∀ (szs:List Nat) (vs:List V) (us:List Value) (L:Loc) (vs':List V) (L':Loc),prep L szs vs=some (vs',L')→Mem c N w0 O0 L w→Vals c L w N vs us→
  Mem c N w0 O0 L' w∧Grow c L w c L' w∧Vals c L' w N vs' us∧vs'.length=vs.length
 | [],[],us,L,vs',L',h,hm,hv=>by
  injection h with h; injection h with h1 h2; subst h1; subst h2
  exact ⟨hm,Grow.refl ..,hv,rfl⟩
 | [],_::_,_,_,_,_,h,_,_=>by cases h
 | _::_,[],_,_,_,_,h,_,_=>by cases h
 | sz::szs,v::vs,us,L,vs',L',h,hm,hv=>by
  obtain ⟨u,us',rfl,h1,h2⟩:=hv.cons_inv
  have cons:∀ {x:V} {xs:List V} {L:Loc},Val c L w N x u→Vals c L w N xs us'→Vals c L w N (x::xs) (u::us'):=by
   intro x xs L h k
   refine ⟨by simp [k.1],fun i v' u' e1 e2=>?_⟩
   cases i with
   | zero=>simp at e1 e2; subst e1; subst e2; exact h
   | succ i=>exact k.2 i v' u' (by simpa using e1) (by simpa using e2)
  simp only [prep] at h;split at h
  ·cases hp:prep L szs vs with
   | none=>rw [hp] at h; cases h
   | some x=>
    obtain ⟨xs,L1⟩:=x;rw [hp] at h;injection h with h; injection h with e1 e2; subst e1; subst e2;obtain ⟨m1,m2,m3,m4⟩:=zyO szs vs us' L xs L1 hp hm h2
    exact ⟨m1,m2,cons (h1.grow m2) m3,by simp [m4]⟩
  ·cases ht:toD L v with
   | none=>rw [ht] at h; cases h
   | some y=>
    obtain ⟨d,wr⟩:=y;rw [ht] at h;simp only [Option.bind_some] at h
    cases hp:prep (L.upd wr) szs vs with
    | none=>rw [hp] at h; cases h
    | some x=>
     obtain ⟨xs,L1⟩:=x;rw [hp] at h;injection h with h; injection h with e1 e2; subst e1; subst e2
     obtain ⟨k1,k2,k3⟩:=zB7 hm (Lr:=L) (fun _ _ _=>rfl) ht h1
     obtain ⟨m1,m2,m3,m4⟩:=zyO szs vs us' (L.upd wr) xs L1 hp k1 (h2.grow k2)
     exact ⟨m1,k2.trans m2,cons (.d _ _ (k3.grow m2)) m3,by simp [m4]⟩
theorem zGH {c:Ctx} {L:Loc} {w:World} (hm:Mem c N w0 O0 L w) {A':Nat→Prop} (hA:∀ b,A' b→own c L b∨b < N) (hmap:∀ g n kk es b,L.get g n=.map kk es→c.ι g=some b→N≤b→¬ A' b)
  {sz:Nat} {v:V} {x:Option Nat×D} {u:Value}
  (h:zn2 L sz v=some x) (hv:Val c L w N v u):zgP w A' N c.γ (x.1.bind c.ι) sz x.2 u∧(∀ g,x.1=some g→(g < 90000∨(L g).1=0)∧∃ sz els,(L g).2=.arr sz els true)∧∀ l,x.2≠.tup l:=by
 have data:∀ {d:D},d.free=true→Rep w (own c L) N c.γ d u→x=(none,d)→zgP w A' N c.γ (x.1.bind c.ι) sz x.2 u∧(∀ g,x.1=some g→(g < 90000∨(L g).1=0)∧∃ sz els,(L g).2=.arr sz els true)∧∀ l,x.2≠.tup l:=by
  rintro d hf hr rfl
  have hrr:=hr.free hA hf
  refine ⟨?_,fun g e=>(by cases e),fun l e=>(by rw [show d=.tup l from e] at hf; cases hf)⟩
  cases d with
  | sl t l=>cases t<;>first | exact ⟨rfl,hrr⟩ | (simp [D.free] at hf)
  | _=>exact ⟨rfl,hrr⟩
 unfold zn2 at h;split at h
 ·injection h with h; subst h
  refine ⟨?_,fun g e=>(by cases e),fun l e=>(by revert e; dsimp only; split<;>simp)⟩
  have hrr:=hv.dat;split
  ·refine ⟨?_,rfl⟩
   cases hrr with
   | slE _ a cap hc _ _=>exact ⟨a,cap,rfl,Nat.zero_le _,.inl (hc rfl)⟩
   | sl _ _ _ _ _ _ _ h0=>exact absurd rfl h0
  ·exact ⟨rfl,hrr.free hA rfl⟩
 ·injection h with h; subst h
  refine ⟨?_,fun g e=>(by cases e),fun l e=>(by revert e; dsimp only; split<;>simp)⟩
  have hrr:=hv.dat;split
  ·refine ⟨?_,rfl⟩
   cases hrr with
   | slE _ a cap _ hc _=>exact ⟨a,cap,rfl,Nat.zero_le _,.inl (hc rfl).2⟩
   | sl _ _ _ _ _ _ _ h0=>exact absurd rfl h0
  ·exact ⟨rfl,hrr.free hA rfl⟩
 ·split at h
  ·rename_i hf;injection h with h;exact data hf hv.dat h.symm
  ·cases h
 ·split at h
  ·rename_i hf;injection h with h;exact data hf hv.unp.dat h.symm
  ·cases h
 ·rename_i g n off len;split at h
  ·rename_i sz' els hL;split at h
   ·rename_i hc;obtain ⟨h1,h2,h3,h4⟩:=hc;injection h with h; subst h;subst h1; subst h2
    obtain ⟨e1,e2⟩:=zbM hL (by simp)
    refine ⟨?_,fun g' e=>(by injection e with e; subst e; exact ⟨by rw [e1]; exact h4,_,_,e2⟩),fun l e=>(by cases e)⟩
    have ho:=hm.obj g;rw [e2] at ho
    cases hv with
    | ref _ _ _ _ _ k1 k2 k3=>
     refine ⟨(k2 _ _ _ hL).2,?_⟩;simp only [Option.bind_some]
     cases hι:c.ι g with
     | none=>simp only [zgt,hι] at ho; exact ho
     | some b=>
      simp only [zgt,hι] at ho;obtain ⟨y,T,fz,p1,p2,p3,vs,p4⟩:=ho
      refine ⟨y,T,fz,p1,p2,p3,vs,fun i d hd=>⟨(p4 i d hd).1.free hA ?_,(p4 i d hd).2⟩⟩
      exact List.all_eq_true.1 h3 d (List.mem_of_getElem? hd)
   ·cases h
  ·cases h
 ·rename_i g n;split at h
  ·rename_i kk es hL;split at h
   ·rename_i hc;obtain ⟨hg,hf⟩:=hc;injection h with h; subst h
    refine ⟨⟨rfl,?_⟩,fun g e=>(by cases e),fun l e=>(by cases e)⟩
    obtain ⟨e1,e2⟩:=zbM hL (by simp)
    obtain ⟨b,m,ck,p1,p2,p3,p4⟩:=hm.get hL (by simp)
    have hN:=hm.mineN g b p1 (by rw [e2]; simp) (by rw [e2]; simp) hg
    cases hv with
    | map _ _ _ k1 k2=>
     obtain ⟨b',q1,rfl⟩:=k2 (by rw [hL]; simp)
     rw [p1] at q1; cases q1
     exact .mp .own kk es b m ck (hmap g n kk es b hL p1 hN) (fun _=>hN) (zbd p2) p2 p3 (fun i e p a b=>(p4 i e p a b).1) fun i e p a b=>((p4 i e p a b).2).free hA (zrC hf (List.mem_of_getElem? b))
   ·cases h
  ·cases h
 ·cases h
theorem zGI {c:Ctx} {s:St} {a:Act} {w:World} (hr:RelC N w0 O0 γ0 c s a w) {ro:Nat→Bool} {Og:Nat→Prop} (hro:∀ g b,ro g=true→90000≤g→γ0.ι g=some b→Og b) {fn:Func} {szs:List Nat} {r:D} {L':Loc}
  (h:ares P ro fn.results.toList szs s=some (r,L')):
  ∃ v,(results fn a.tmps).run P w=.ok v w∧RelC N w0 O0 γ0 c { s with L:=L' } a w∧zo9 w (fun b=>(b < N∧¬ Og b)∨c.O b) N c.γ szs r v:=by
 unfold ares at h
 cases h1:fn.results.toList.mapM (zBa P s) with
 | none=>rw [h1] at h; cases h
 | some vs0=>
 rw [h1] at h;simp only [Option.bind_some] at h
 cases h0:prep s.L szs vs0 with
 | none=>rw [h0] at h; cases h
 | some y=>
 obtain ⟨vs,L1⟩:=y;rw [h0] at h;simp only [Option.bind_some] at h
 cases h2:zxs L1 szs vs with
 | none=>rw [h2] at h; cases h
 | some rs=>
 rw [h2] at h;simp only [Option.bind_some] at h;split at h
 rotate_left
 ·cases h
 rename_i hd;obtain ⟨hd,hroA⟩:=hd
 obtain ⟨us,q1,q2,q3⟩:=zCw (P:=P) (w:=w) (R:=Val c s.L w N) _ _ h1 (fun x v hv=>zEA hr hv)
 obtain ⟨m1,m2,m3,m4⟩:=zyO szs vs0 us s.L vs L1 h0 hr.mem ⟨q2,q3⟩
 have hrel:RelC N w0 O0 γ0 c { s with L:=L1 } a w:=⟨m1,hr.slots.grow m2,hr.defers,hr.hγ,fun k hk=>⟨(m2.stay k (hr.stay k hk).1).1,(hr.stay k hk).2⟩,RelC.given' hr.given m2,hr.cells⟩
 obtain ⟨z1,z2,z3⟩:=zt7 h2
 have hlu:us.length=rs.length:=by have:=m3.1; omega
 have hrun:(results fn a.tmps).run P w=.ok (if h:us.toArray.size=1 then us.toArray[0] else .tuple us.toArray) w:=by
  unfold results;rw [Array.mapM_eq_mapM_toList];simp only [Sem.run_bind,Sem.run_map,Sem.run_pure]
  exact congrArg (fun r:Result (List Value)=>(r.andThen fun a w'=>Result.ok a.toArray w').andThen fun a w'=>Result.ok (if h:a.size=1 then a[0] else Value.tuple a) w') q1
 let ow:Nat→Option Nat:=fun i=>((rs[i]?).bind (·.1)).bind c.ι
 have how:∀ i b,ow i=some b→∃ g d,rs[i]? =some (some g,d)∧c.ι g=some b:=by
  intro i b hb;simp only [ow] at hb
  cases hx:rs[i]? with
  | none=>rw [hx] at hb; cases hb
  | some x=>
   obtain ⟨g,d⟩:=x;rw [hx] at hb
   cases g with
   | none=>cases hb
   | some g=>exact ⟨g,d,rfl,hb⟩
 have hcomp:∀ (A':Nat→Prop),(∀ b,A' b→own c L1 b∨b < N)→(∀ g n kk es b,L1.get g n=.map kk es→c.ι g=some b→N≤b→¬ A' b)→∀ (i:Nat) (x:Option Nat×D),rs[i]? =some x→∃ sz v u,szs[i]? =some sz∧vs[i]? =some v∧us[i]? =some u∧
   zgP w A' N c.γ (x.1.bind c.ι) sz x.2 u∧(∀ g,x.1=some g→(g < 90000∨(L1 g).1=0)∧∃ sz els,(L1 g).2=.arr sz els true)∧∀ l,x.2≠.tup l:=by
  intro A' hA' hmap i x hx;have hi:=(List.getElem?_eq_some_iff.1 hx).1
  have e1:=List.getElem?_eq_getElem (show i < szs.length by omega)
  have e2:=List.getElem?_eq_getElem (show i < vs.length by omega)
  have e3:=List.getElem?_eq_getElem (show i < us.length by omega)
  obtain ⟨k1,k2⟩:=zGH m1 hA' hmap (z3 i _ _ x e1 e2 hx) (m3.2 i _ _ e2 e3);exact ⟨_,_,_,e1,e2,e3,k1,k2⟩
 have harr0:∀ (i g:Nat) (d:D),rs[i]? =some (some g,d)→(g < 90000∨(L1 g).1=0)∧∃ sz els,(L1 g).2=.arr sz els true:=by
  intro i g d hx
  obtain ⟨_,_,_,_,_,_,_,k⟩:=hcomp (fun _=>False) (fun _ h=>h.elim) (fun _ _ _ _ _ _ _ _ h=>h) i _ hx
  exact k.1 g rfl
 have harr:∀ (i g:Nat) (d:D),rs[i]? =some (some g,d)→∃ sz els,(L1 g).2=.arr sz els true:=fun i g d hx=>(harr0 i g d hx).2
 have hlive:∀ (i g:Nat) (d:D),rs[i]? =some (some g,d)→(L1 g).2≠.dead∧(L1 g).2.live=true:=by
  intro i g d hx;obtain ⟨sz,els,e⟩:=harr i g d hx
  rw [e]; exact ⟨by simp,rfl⟩
 have hA:∀ b,(((b < N∧¬ Og b)∨c.O b)∨∃ i,ow i=some b)→own c L1 b∨b < N:=by
  rintro b ((hb | hb) | ⟨i,hb⟩)
  ·exact .inr hb.1
  ·exact .inl (.inl hb)
  ·obtain ⟨g,d,hx,hι⟩:=how i b hb;exact .inl (.inr ⟨g,hι,(hlive i g d hx).2⟩)
 have hmapA:∀ g n kk es b,L1.get g n=.map kk es→c.ι g=some b→N≤b→¬ (((b < N∧¬ Og b)∨c.O b)∨∃ i,ow i=some b):=by
  rintro g n kk es b hL hι hN ((hb | hb) | ⟨i,hb⟩)
  ·omega
  ·obtain ⟨_,e2⟩:=zbM hL (by simp)
   exact (m1.mine g b hι (by rw [e2]; simp)).2.2 hb
  ·obtain ⟨_,e2⟩:=zbM hL (by simp)
   obtain ⟨g',d,hx,hι'⟩:=how i b hb
   have:=m1.inj g g' b hι hι' (by rw [e2]; simp) (hlive i g' d hx).1
   subst this;obtain ⟨sz,els,e⟩:=harr i g d hx;rw [e2] at e; cases e
 have fin:∀ {r0:D},(match r0 with
   | .tup ds=>∃ vs:Array Value,(if h:us.toArray.size=1 then us.toArray[0] else Value.tuple us.toArray)=.tuple vs∧vs.size=ds.length∧szs.length=ds.length∧
     ∀ (i:Nat) (d:D) (u:Value) (sz:Nat),ds[i]? =some d→vs[i]? =some u→szs[i]? =some sz→zgP w (fun b=>((b < N∧¬ Og b)∨c.O b)∨∃ i,ow i=some b) N c.γ (ow i) sz d u
   | d=>∃ sz,szs=[sz]∧zgP w (fun b=>((b < N∧¬ Og b)∨c.O b)∨∃ i,ow i=some b) N c.γ (ow 0) sz d (if h:us.toArray.size=1 then us.toArray[0] else Value.tuple us.toArray))→
   zo9 w (fun b=>(b < N∧¬ Og b)∨c.O b) N c.γ szs r0 (if h:us.toArray.size=1 then us.toArray[0] else .tuple us.toArray):=by
  intro r0 h
  refine ⟨ow,fun i j b hi hj=>?_,fun i b hb=>?_,h⟩
  ·obtain ⟨g,d,hx,hι⟩:=how i b hi;obtain ⟨g',d',hx',hι'⟩:=how j b hj;have:=m1.inj g g' b hι hι' (hlive i g d hx).1 (hlive j g' d' hx').1;subst this
   exact zg3 hd i j g (by rw [List.getElem?_map,hx]; rfl) (by rw [List.getElem?_map,hx']; rfl)
  ·obtain ⟨g,d,hx,hι⟩:=how i b hb;obtain ⟨k1,k2,k3⟩:=m1.mine g b hι (hlive i g d hx).1;obtain ⟨sz,els,earr⟩:=harr i g d hx
   have hrg:ro g=true:=by
    rw [List.all_eq_true] at hroA;exact hroA _ (List.mem_of_getElem? hx)
   refine ⟨k2,fun hh=>hh.elim (fun h=>?_) k3⟩
   rcases Nat.lt_or_ge g 90000 with h' | h'
   ·have:=m1.mineN g b hι (by rw [earr]; simp) (by rw [earr]; simp) h'; omega
   ·rcases (harr0 i g d hx).1 with h5 | h5
    ·omega
    ·rcases hrel.given g h5 with h6 | h6
     ·rw [show (L1 g).2=.dead from h6] at earr; cases earr
     ·exact h.2 (hro g b hrg h' (by rw [←h6]; exact hι))
 have key:L1=L'∧zo9 w (fun b=>(b < N∧¬ Og b)∨c.O b) N c.γ szs r (if h:us.toArray.size=1 then us.toArray[0] else .tuple us.toArray):=by
  split at h
  ·rename_i g d;injection h with h; injection h with e1 e2; subst e1; subst e2;refine ⟨rfl,fin ?_⟩
   obtain ⟨sz,v,u,e1,e2,e3,k1,k2⟩:=hcomp _ hA hmapA 0 (g,d) (by simp)
   simp only [List.length_cons,List.length_nil] at z1 z2 hlu
   have hus:us=[u]:=by
    cases us with
    | nil=>simp at e3
    | cons x l=>
     simp at e3; subst e3
     have:l=[]:=by simpa using hlu
     rw [this]
   have hszs:szs=[sz]:=by
    cases szs with
    | nil=>simp at e1
    | cons x l=>
     simp at e1; subst e1
     have:l=[]:=by simpa using z1
     rw [this]
   have hnt:∀ l,d≠.tup l:=k2.2;rw [hus]
   cases d with
   | tup l=>exact absurd rfl (hnt l)
   | _=>exact ⟨sz,hszs,k1⟩
  ·rename_i hn;injection h with h; injection h with e1 e2; subst e1; subst e2;refine ⟨rfl,fin ?_⟩
   have hne:us.length≠1:=by
    intro h1;rw [hlu] at h1
    cases rs with
    | nil=>simp at h1
    | cons x l=>
     have:l=[]:=by simpa using h1
     subst this;exact hn x.1 x.2 rfl
   refine ⟨us.toArray,by simp [hne],by simp; omega,by simp; omega,fun i d u sz e1 e2 e3=>?_⟩
   rw [List.getElem?_map] at e1
   cases hx:rs[i]? with
   | none=>rw [hx] at e1; cases e1
   | some x=>
    rw [hx] at e1;injection e1 with e1; subst e1;obtain ⟨sz',v,u',f1,f2,f3,k1,k2⟩:=hcomp _ hA hmapA i x hx;rw [f1] at e3; injection e3 with e3; subst e3;simp at e2;rw [f3] at e2; injection e2 with e2; subst e2
    have:ow i=x.1.bind c.ι:=by simp only [ow,hx]; rfl
    rw [this]; exact k1
 obtain ⟨rfl,hres⟩:=key;exact ⟨_,hrun,hrel,hres⟩
end
end Wf

namespace Wf
open Go Go.RowKit
def given (pms:List (PM×Nat)) (ds:List D) (g:Nat):Option (Nat×List D):=
 if 90000≤g∧g < 91000 then (if (pmAt pms (g - 90000)).1=.lent then none else match ds[g - 90000]? with
  | some (.sl .own els)=>some ((pmAt pms (g - 90000)).2,els)
  | _=>none) else none
def zjy (pms:List (PM×Nat)) (ds:List D) (ks:List (Nat×Bool)) (Ts:List Tb):Loc:=fun g=>match given pms ds g with
 | some x=>(0,.arr x.1 x.2 true)
 | none=>zbq ks Ts g
def zEB (pms:List (PM×Nat)) (i:Nat) (d:D):V:=if (pmAt pms i).1=.lent then .d d.lent else match d with
 | .sl .own els=>.ref (90000+i) 0 0 els.length
 | _=>.d .undef
def zkN (pms:List (PM×Nat)):Nat→List D→List V
 | _,[]=>[]
 | i,d::r=>zEB pms i d::zkN pms (i+1) r
def zCx (n:Nat) (pms:List (PM×Nat)) (ds:List D) (ks:List (Nat×Bool)) (Ts:List Tb):St:=
 { slots:=zkN pms 0 ds++List.replicate (n - ds.length) (.d .undef),L:=zjy pms ds ks Ts }
def zpc (γ:Nat→Nat→Option Nat) (ρ:Nat→Nat→Nat→Option Nat) (O:Nat→Prop) (gv:Nat→Option Nat) (pms:List (PM×Nat)) (ds:List D):Ctx:=
 { ι:=fun g=>match given pms ds g with
   | some _=>gv (g - 90000)
   | none=>none,γ,ρ,O }
theorem zlS {pms:List (PM×Nat)} {ds:List D} {g:Nat} {x:Nat×List D} (h:given pms ds g=some x):∃ i,i < 1000∧g=90000+i∧(pmAt pms i).1≠.lent∧ds[i]? =some (.sl .own x.2)∧x.1=(pmAt pms i).2:=by
 unfold given at h;split at h
 ·rename_i hg;split at h
  ·cases h
  ·rename_i hp;split at h
   ·rename_i els hd;injection h with h; subst h
    exact ⟨g - 90000,by omega,by omega,hp,hd,rfl⟩
   ·cases h
 ·cases h
theorem zvt {pms:List (PM×Nat)} {ds:List D} {i:Nat} {els:List D} (hi:i < 1000) (hp:(pmAt pms i).1≠.lent) (hd:ds[i]? =some (.sl .own els)):given pms ds (90000+i)=some ((pmAt pms i).2,els):=by
 unfold given
 rw [if_pos (by omega),show 90000+i - 90000=i by omega,if_neg hp,hd]
theorem zvu {pms:List (PM×Nat)} {ds:List D} (k:Nat):given pms ds (tb k)=none:=by
 unfold given; rw [if_neg (by unfold tb; omega)]
theorem zt8 {pms:List (PM×Nat)}:∀ {ds:List D} {i j:Nat},(zkN pms i ds)[j]? =(ds[j]?).map (zEB pms (i+j))
 | [],i,j=>by simp [zkN]
 | d::ds,i,0=>by simp [zkN]
 | d::ds,i,j+1=>by
  simp only [zkN,List.getElem?_cons_succ]
  rw [zt8,show i+1+j=i+(j+1) by omega]
theorem zlT {pms:List (PM×Nat)}:∀ {ds:List D} {i:Nat},(zkN pms i ds).length=ds.length
 | [],i=>rfl
 | d::ds,i=>by simp [zkN,zlT]
theorem zrD {ks:List (Nat×Bool)} {Ts:List Tb} (g:Nat):(zbq ks Ts g).1=0∧((zbq ks Ts g).2=.dead∨∃ wr T,(zbq ks Ts g).2=.tbl wr T):=by
 induction ks generalizing Ts with
 | nil=>exact ⟨rfl,.inl rfl⟩
 | cons p ks ih=>
  obtain ⟨k0,w0⟩:=p
  cases Ts with
  | nil=>exact ⟨rfl,.inl rfl⟩
  | cons T Ts=>
   simp only [zbq]
   by_cases e:g=tb k0
   ·subst e; rw [Loc.set_same]; exact ⟨rfl,.inr ⟨_,_,rfl⟩⟩
   ·rw [Loc.set_ne _ _ e]; exact ih
theorem zCy {n:Nat} {pms:List (PM×Nat)} {ks:List (Nat×Bool)} {ds:List D} {us:List Value} {Ts:List Tb} {w:World} {γ:Nat→Nat→Option Nat} {ρ:Nat→Nat→Nat→Option Nat} {O:Nat→Prop} {gv:Nat→Option Nat} (hn:ds.length≤1000)
  (hT:TabRel (zbq ks Ts) (zjv γ ρ O) (fun b=>b < w.heap.size∧¬ (O b∨Gv gv b)) w) (hO:∀ b,O b→b < w.heap.size) (hgv:∀ i b,gv i=some b→b < w.heap.size∧¬ O b) (hinj:∀ i j b,gv i=some b→gv j=some b→i=j)
  (hargs:zt0 w (fun b=>O b∨Gv gv b) γ pms gv ds us):
  RelC w.heap.size w (fun b=>O b∨Gv gv b) ⟨γ,ρ,(· ∈ksW ks),(zpc γ ρ O gv pms ds).ι⟩ (zpc γ ρ O gv pms ds) (zCx n pms ds ks Ts)
   { tmps:=us.toArray++Array.replicate (n - us.toArray.size) undef,defers:=[] } w:=by
 have hL:∀ g x,given pms ds g=some x→zjy pms ds ks Ts g=(0,.arr x.1 x.2 true):=fun g x h=>by unfold zjy; rw [h]
 have hLn:∀ g,given pms ds g=none→zjy pms ds ks Ts g=zbq ks Ts g:=fun g h=>by unfold zjy; rw [h]
 have hι:∀ g x,given pms ds g=some x→(zpc γ ρ O gv pms ds).ι g=gv (g - 90000):=fun g x h=>by
  show (match given pms ds g with | some _=>gv (g - 90000) | none=>none)=_
  rw [h]
 have hιn:∀ g,given pms ds g=none→(zpc γ ρ O gv pms ds).ι g=none:=fun g h=>by
  show (match given pms ds g with | some _=>gv (g - 90000) | none=>none)=_
  rw [h]
 have hιs:∀ g b,(zpc γ ρ O gv pms ds).ι g=some b→∃ x,given pms ds g=some x∧gv (g - 90000)=some b:=fun g b h=>by
  cases hg:given pms ds g with
  | none=>rw [hιn g hg] at h; cases h
  | some x=>rw [hι g x hg] at h; exact ⟨x,rfl,h⟩
 have hown:∀ b,own (zpc γ ρ O gv pms ds) (zjy pms ds ks Ts) b→O b∨Gv gv b:=by
  rintro b (h | ⟨g,h1,_⟩)
  ·exact .inl h
  ·obtain ⟨x,_,h3⟩:=hιs g b h1;exact .inr ⟨_,h3⟩
 have htb:∀ k,zjy pms ds ks Ts (tb k)=zbq ks Ts (tb k):=fun k=>hLn _ (zvu k)
 have hgiven:∀ g x,given pms ds g=some x→∃ i d u,i < 1000∧g=90000+i∧(pmAt pms i).1≠.lent∧ds[i]? =some d∧us[i]? =some u∧d=.sl .own x.2∧x.1=(pmAt pms i).2∧x.2.all D.flatEl=true∧SlAt w (gv i) x.1 0 x.2.length u∧zma w (fun _=>False) 0 γ (gv i) x.1 x.2:=by
  intro g x h;obtain ⟨i,h1,h2,h3,h4,h5⟩:=zlS h
  have hi:i < us.length:=by rw [hargs.1]; exact za3 h4
  obtain ⟨els,e1,e2,e3,e4⟩:=(hargs.2 i _ us[i] h4 (by simp)).2 h3
  injection e1 with _ e1; subst e1
  exact ⟨i,_,us[i],h1,h2,h3,h4,by simp,rfl,h5,e2,by rw [h5]; exact e3,by rw [h5]; exact e4⟩
 refine ⟨⟨fun g=>?_,fun g g' b h1 h2 _ _=>?_,fun g b h1 _=>?_,fun g b h1 _ _ h4=>?_,?_,fun k=>hιn _ (zvu k),fun k=>?_,Nat.le_refl _,rfl,rfl,rfl,rfl,fun _ _ _=>rfl,fun b hb=>⟨hO b hb,.inl (.inl hb)⟩⟩,⟨?_,fun i v u hv hu=>?_⟩,rfl,fun _ _ _ h=>h,fun k hk=>⟨fun T e=>hk ?_,rfl,rfl⟩,fun g e=>.inr rfl,fun b x T fz hb=>⟨x,fz,hb,rfl⟩⟩
 ·show zgt _ (zjy pms ds ks Ts) w _ _ (zjy pms ds ks Ts g).2
  cases hg:given pms ds g with
  | none=>
   rw [hLn g hg]
   rcases (zrD (ks:=ks) (Ts:=Ts) g).2 with h | ⟨wr,T,h⟩<;>rw [h]<;>trivial
  | some x=>
   rw [hL g x hg,hι g x hg];obtain ⟨i,d,u,h1,rfl,h3,h4,h5,h6,h7,h8,h9,h10⟩:=hgiven g x hg
   rw [show 90000+i - 90000=i by omega]
   have:=h10.flat (A:=own (zpc γ ρ O gv pms ds) (zjy pms ds ks Ts)) (N:=w.heap.size) h8;generalize gv i=β at this ⊢
   cases β with
   | none=>exact this
   | some b=>exact this
 ·obtain ⟨x,e1,e2⟩:=hιs g b h1;obtain ⟨x',e3,e4⟩:=hιs g' b h2;obtain ⟨i,_,rfl,_⟩:=zlS e1;obtain ⟨i',_,rfl,_⟩:=zlS e3;have:=hinj _ _ b e2 e4;omega
 ·obtain ⟨x,e1,e2⟩:=hιs g b h1;obtain ⟨k1,k2⟩:=hgv _ b e2;exact ⟨.inr (.inr ⟨_,e2⟩),k1,k2⟩
 ·obtain ⟨x,e1,e2⟩:=hιs g b h1;obtain ⟨i,_,rfl,_⟩:=zlS e1;omega
 ·exact hT.stable (c:=zjv γ ρ O) htb rfl rfl rfl fun _ _ _ _ _ _=>rfl
 ·show (zjy pms ds ks Ts (tb k)).2=.dead∨_
  rw [show (zCx n pms ds ks Ts).L (tb k)=zbq ks Ts (tb k) from htb k,htb k]
  exact (zrD (tb k)).2
 ·simp [zCx,zlT,hargs.1]
 ·simp only [zCx,Array.toList_append,Array.toList_replicate,List.size_toArray] at hv hu
  by_cases hi:i < us.length
  ·have hi':i < ds.length:=by rw [←hargs.1]; exact hi
   rw [List.getElem?_append_left (by simpa using hi)] at hu
   rw [List.getElem?_append_left (by rw [zlT]; exact hi'),zt8,Nat.zero_add] at hv
   have hd:ds[i]? =some ds[i]:=by simp
   rw [hd] at hv;injection hv with hv; subst hv
   have hu':us[i]? =some u:=by simpa using hu
   obtain ⟨a1,a2⟩:=hargs.2 i _ u hd hu';unfold zEB
   by_cases hp:(pmAt pms i).1=.lent
   ·rw [if_pos hp];exact .d _ _ (((a1 hp).2.out hown (Nat.le_refl _)).lent _)
   ·rw [if_neg hp];obtain ⟨els,e1,e2,e3,e4⟩:=a2 hp;rw [e1] at hd ⊢;dsimp only
    have hg:=zvt (i:=i) (by omega) hp hd
    have hget:(zCx n pms ds ks Ts).L.get (90000+i) 0=.arr (pmAt pms i).2 els true:=by
     show Loc.get (zjy pms ds ks Ts) _ _=_;unfold Loc.get; rw [hL _ _ hg]; simp
    refine .ref _ _ _ _ _ (Nat.zero_le _) (fun sz' els' l' h=>?_) (fun sz' els' h=>?_)
    ·rw [hget] at h; cases h
     refine ⟨by omega,?_⟩
     rw [hι _ _ hg,show 90000+i - 90000=i by omega]; exact e3
    ·rw [hget] at h; cases h
  ·rw [List.getElem?_append_right (by rw [zlT,←hargs.1]; omega)] at hv
   have:=List.mem_of_getElem? hv;rw [List.mem_replicate] at this;rw [this.2];exact .d _ _ (.undef _)
 ·have e':za6 (zbq ks Ts) k=some (true,T):=by rw [←zby (htb k)]; exact e
  obtain ⟨j,h1,_⟩:=zh6 e';exact zil.2 (List.mem_of_getElem? h1)
end Wf

namespace Wf
open Go Go.RowKit
def zqf (L:Loc):List (PM×Nat)→Nat→Option (List (List D))
 | [],_=>some []
 | (p,sz)::r,i=>if p=.mut then (match L.get (90000+i) 0 with
   | .arr sz' els true=>if sz'=sz∧els.all D.flatEl=true then (zqf L r (i+1)).map fun x=>els::x else none
   | _=>none) else zqf L r (i+1)
theorem zm1 {L:Loc}:∀ {pms:List (PM×Nat)} {i:Nat} {outs:List (List D)},zqf L pms i=some outs→∀ j sz,pmAt pms j=(.mut,sz)→∃ els,outs[zcT pms j]? =some els∧L.get (90000+(i+j)) 0=.arr sz els true∧els.all D.flatEl=true
 | [],i,outs,h,j,sz,hp=>by rw [zn0] at hp; cases hp
 | (p,s)::r,i,outs,h,j,sz,hp=>by
  simp only [zqf] at h
  by_cases hm:p=.mut
  ·subst hm;rw [if_pos rfl] at h;split at h
   ·rename_i sz' els hL;split at h
    ·rename_i hc;obtain ⟨rfl,hf⟩:=hc
     cases ho:zqf L r (i+1) with
     | none=>rw [ho] at h; cases h
     | some os=>
      rw [ho] at h;injection h with h; subst h
      cases j with
      | zero=>
       simp [pmAt] at hp; subst hp
       exact ⟨els,by simp [zcT],hL,hf⟩
      | succ j=>
       obtain ⟨els',e1,e2,e3⟩:=zm1 ho j sz (by rw [←hp]; simp [pmAt])
       refine ⟨els',?_,by rw [←e2]; congr 1; omega,e3⟩
       rw [zfC];simp only [pmAt,List.getD_cons_zero,if_true,List.tail_cons];rw [Nat.add_comm,List.getElem?_cons_succ]; exact e1
    ·cases h
   ·cases h
  ·rw [if_neg hm] at h
   cases j with
   | zero=>
    simp [pmAt] at hp
    exact absurd hp.1 hm
   | succ j=>
    obtain ⟨els',e1,e2,e3⟩:=zm1 h j sz (by rw [←hp]; simp [pmAt])
    refine ⟨els',?_,by rw [←e2]; congr 1; omega,e3⟩
    rw [zfC];simp only [pmAt,List.getD_cons_zero,hm,if_false,List.tail_cons,Nat.zero_add];exact e1
theorem TabRel.swap {L:Loc} {c c':Ctx} {R R':Nat→Prop} {w:World} (h:TabRel L c R w) (hγ:c'.γ=c.γ) (hρ:c'.ρ=c.ρ) (hO:∀ b,c'.O b↔c.O b) (hR:∀ b,R b→R' b):TabRel L c' R' w:=by
 have ht:∀ k i q,c'.tab k i q=c.tab k i q:=fun k i q=>by cases q<;>simp only [Ctx.tab,hγ,hρ]
 refine ⟨fun k wr T i cs h1 h2=>?_,fun k wr T i b h1 h2=>?_,fun k i q k' i' q' b h1 h2 h3 h4=>?_,fun k T i q b h1 h2 h3=>?_,fun k T i q b h1 h2 h3=>?_⟩
 ·rw [hγ,hρ]; exact h.obj k wr T i cs h1 h2
 ·rw [hγ] at h2; exact h.tight k wr T i b h1 h2
 ·rw [ht] at h3 h4; exact h.inj k i q k' i' q' b h1 h2 h3 h4
 ·rw [ht] at h3; exact (hO b).2 (h.wr k T i q b h1 h2 h3)
 ·rw [ht] at h3;obtain ⟨a1,a2⟩:=h.ro k T i q b h1 h2 h3
  exact ⟨fun e=>a1 ((hO b).1 e),hR b a2⟩
theorem zt9 {L:Loc}:∀ {ks:List Nat} {Ts:List Tb} {k:Nat} (Lb:Loc),k ∉ ks→(Lb.upd (zh2 L ks Ts)) (tb k)=Lb (tb k)
 | [],Ts,k,Lb,_=>by cases Ts<;>rfl
 | k0::ks,[],k,Lb,_=>rfl
 | k0::ks,T::Ts,k,Lb,h=>by
  simp only [List.mem_cons,not_or] at h;simp only [zh2,Loc.upd]
  rw [zt9 _ h.2,Loc.set_ne _ _ (fun e=>h.1 (zfq e))]
theorem zxt {L:Loc}:∀ {ks:List Nat} {Ts:List Tb} {j k:Nat} {T:Tb} (Lb:Loc),ks.Nodup→ks[j]? =some k→Ts[j]? =some T→(Lb.upd (zh2 L ks Ts)) (tb k)=(L.new (tb k),.tbl true T)
 | [],Ts,j,k,T,Lb,_,h,_=>by simp at h
 | k0::ks,[],j,k,T,Lb,_,_,h=>by simp at h
 | k0::ks,T0::Ts,j,k,T,Lb,hn,h1,h2=>by
  simp only [List.nodup_cons] at hn;simp only [zh2,Loc.upd]
  cases j with
  | zero=>
   simp at h1 h2; subst h1; subst h2
   rw [zt9 _ hn.1,Loc.set_same]
  | succ j=>exact zxt _ hn.2 (by simpa using h1) (by simpa using h2)
theorem zlU:∀ {ks:List (Nat×Bool)} {Ts Ts':List Tb} {k:Nat},Ts.length=ks.length→k ∉ ksW ks→za6 (zbq ks (zdK ks Ts Ts')) k=za6 (zbq ks Ts) k
 | [],Ts,Ts',k,_,_=>by
  have:∀ Ts,zbq [] Ts=fun _=>(0,.dead):=fun Ts=>by cases Ts<;>rfl
  rw [this,this]
 | (k0,w0)::ks,[],Ts',k,h,_=>by simp at h
 | (k0,false)::ks,T0::Ts,Ts',k,h,hk=>by
  have en:zdK ((k0,false)::ks) (T0::Ts) Ts'=T0::zdK ks Ts Ts':=by cases Ts'<;>rfl
  have hk':k ∉ ksW ks:=by simpa [ksW] using hk
  rw [en];simp only [zbq]
  have ih:=zlU (Ts':=Ts') (by simpa using h) hk'
  by_cases e:k=k0
  ·subst e; unfold za6; rw [Loc.set_same,Loc.set_same]
  ·rw [zby (Loc.set_ne _ _ fun h=>e (zfq h)),zby (Loc.set_ne _ _ fun h=>e (zfq h))]; exact ih
 | (k0,true)::ks,T0::Ts,Ts',k,h,hk=>by
  have hk':k≠k0∧k ∉ ksW ks:=by simpa [ksW] using hk
  cases Ts' with
  | nil=>
   simp only [zdK,zbq]
   rw [zby (Loc.set_ne _ _ fun h=>hk'.1 (zfq h)),zby (Loc.set_ne _ _ fun h=>hk'.1 (zfq h))]
   exact zlU (by simpa using h) hk'.2
  | cons T' Ts'=>
   simp only [zdK,zbq]
   rw [zby (Loc.set_ne _ _ fun h=>hk'.1 (zfq h)),zby (Loc.set_ne _ _ fun h=>hk'.1 (zfq h))]
   exact zlU (by simpa using h) hk'.2
theorem zIi {n:Nat} {pms:List (PM×Nat)} {ks:List (Nat×Bool)} {ds:List D} {us:List Value} {Ts tbs:List Tb} {outs:List (List D)} {w:World} {γ:Nat→Nat→Option Nat} {ρ:Nat→Nat→Nat→Option Nat} {O:Nat→Prop} {gv:Nat→Option Nat} (hn:ds.length≤1000)
  (hT:TabRel (zbq ks Ts) (zjv γ ρ O) (fun b=>b < w.heap.size∧¬ (O b∨Gv gv b)) w) (hO:∀ b,O b→b < w.heap.size∧Ows (zjv γ ρ O) (zbq ks Ts) (· ∈ksW ks) b) (hgv:∀ i b,gv i=some b→b < w.heap.size∧¬ O b) (hinj:∀ i j b,gv i=some b→gv j=some b→i=j)
  (hlen:∀ i,ds.length≤i→gv i=none) (hargs:zt0 w (fun b=>O b∨Gv gv b) γ pms gv ds us) (hTl:Ts.length=ks.length) (hnd:(ks.map (·.1)).Nodup)
  {c:Ctx} {s:St} {a:Act} {w':World} (hr:RelC w.heap.size w (fun b=>O b∨Gv gv b) ⟨γ,ρ,(· ∈ksW ks),(zpc γ ρ O gv pms ds).ι⟩ c s a w')
  (htb:zj7 s.L (ks.filter (·.2))=some tbs) (houts:zqf s.L pms 0=some outs) {szs:List Nat} {r:D} {v:Value} (hres:zo9 w' (fun b=>(b < w.heap.size∧¬ OwnG pms gv b)∨c.O b) w.heap.size c.γ szs r v):
  Turned w w' γ c.γ ρ c.ρ O c.O pms gv ks ds Ts (zdK ks Ts tbs) outs szs r v:=by
 have h0:=zCy (n:=n) hn hT (fun b h=>(hO b h).1) hgv hinj hargs
 have hm0:=h0.mem
 have hL0:∀ k,zjy pms ds ks Ts (tb k)=zbq ks Ts (tb k):=fun k=>by unfold zjy; rw [zvu]
 have hgat:∀ i b,gv i=some b→∃ els,given pms ds (90000+i)=some ((pmAt pms i).2,els)∧(pmAt pms i).1≠.lent:=by
  intro i b h
  have hi:i < ds.length:=by
   rcases Nat.lt_or_ge i ds.length with h' | h'
   ·exact h'
   ·rw [hlen i h'] at h; cases h
  have hd:ds[i]? =some ds[i]:=by simp
  have hu:us[i]? =some (us[i]'(by rw [hargs.1]; exact hi)):=by simp
  obtain ⟨a1,a2⟩:=hargs.2 i _ _ hd hu
  have hp:(pmAt pms i).1≠.lent:=fun hp=>by rw [(a1 hp).1] at h; cases h
  obtain ⟨els,e1,_⟩:=a2 hp;rw [e1] at hd
  exact ⟨els,zvt (by omega) hp hd,hp⟩
 have hι:∀ i b,gv i=some b→(zpc γ ρ O gv pms ds).ι (90000+i)=some b:=fun i b h=>by
  obtain ⟨els,h1,_⟩:=hgat i b h
  show (match given pms ds (90000+i) with | some _=>gv (90000+i - 90000) | none=>none)=_
  rw [h1,show 90000+i - 90000=i by omega]; exact h
 have hback:∀ i sz,pmAt pms i=(.mut,sz)→∃ els,outs[zcT pms i]? =some els∧s.L.get (90000+i) 0=.arr sz els true∧els.all D.flatEl=true∧∀ x,(zpc γ ρ O gv pms ds).ι (90000+i)=x→c.ι (90000+i)=x:=by
  intro i sz h;obtain ⟨els,e1,e2,e3⟩:=zm1 houts i sz h;rw [Nat.zero_add] at e2
  obtain ⟨f1,f2⟩:=zbM e2 (by simp)
  refine ⟨els,e1,e2,e3,fun x hx=>?_⟩
  rcases hr.given _ f1 with h' | h'
  ·rw [f2] at h'; cases h'
  ·rw [h']; exact hx
 have hosub:∀ b,c.O b→b < w'.heap.size∧(O b∨OwnG pms gv b∨w.heap.size≤b):=by
  intro b hb;obtain ⟨a1,a2⟩:=hr.mem.osub b hb;refine ⟨a1,?_⟩;rcases a2 with (h | ⟨i,h⟩) | h
  ·exact .inl h
  ·refine .inr (.inl ⟨i,?_,h⟩);obtain ⟨els,h1,h2⟩:=hgat i b h
   cases hp:(pmAt pms i).1 with
   | lent=>exact absurd hp h2
   | own=>rfl
   | «mut»=>
    obtain ⟨els',_,e2,_,e4⟩:=hback i _ (Prod.ext hp rfl)
    obtain ⟨f1,f2⟩:=zbM e2 (by simp)
    exact absurd hb (hr.mem.mine _ b (e4 _ (hι i b h)) (by rw [f2]; simp)).2.2
  ·exact .inr (.inr h)
 have hkept:Kept w (fun b=>O b∨Gv gv b) w':=⟨hr.mem.os,hr.mem.tape,hr.mem.output,hr.mem.size,hr.mem.keep,hr.cells⟩
 have hOws:∀ b,Ows (zpc γ ρ O gv pms ds) (zjy pms ds ks Ts) (· ∈ksW ks) b↔O b:=by
  intro b;constructor
  ·rintro ⟨k,i,q,h1,h2,h3⟩
   have h2':zcq (zbq ks Ts) k i q:=(zcq.same (hL0 k)).1 h2;obtain ⟨wr,T,hT'⟩:=h2'.tab;obtain ⟨j,hj,_⟩:=zh6 hT';obtain ⟨j',hj',e⟩:=List.mem_iff_getElem.1 (zil.1 h1)
   have:=zlP (wr:=true) (T:=Ts[j']'(by omega)) hnd (j:=j') (by rw [←e]; exact List.getElem?_eq_getElem hj') (List.getElem?_eq_getElem (by omega))
   exact hT.wr k _ i q b this h2' (by cases q<;>exact h3)
  ·intro h;obtain ⟨k,i,q,h1,h2,h3⟩:=(hO b h).2
   exact ⟨k,i,q,h1,(zcq.same (hL0 k)).2 h2,by cases q<;>exact h3⟩
 have hOwsE:Ows (zpc γ ρ O gv pms ds) (zjy pms ds ks Ts) (· ∈ksW ks)=O:=funext fun b=>propext (hOws b)
 obtain ⟨u1,u2⟩:=zjw htb
 have hfl:(ks.filter (·.2)).length=(ksW ks).length:=by simp [ksW]
 obtain ⟨n1,n2,n3⟩:=zh7 (L:=s.L) (Ts:=Ts) (Ts':=tbs) s.L hnd hTl (by omega)
 refine ⟨hr.hγ,fun k hk=>(hr.stay k hk).2,?_,hosub,hkept,fun i sz els els' h1 h2 h3 h4=>?_,hres⟩
 ·have hnk:(ksW ks).Nodup:=List.Nodup.sublist (List.Sublist.map _ List.filter_sublist) hnd
  have:=zz8 (ad:=fun _=>none) hm0 (W:=(· ∈ksW ks)) (Gb:=Gv gv) (Ob:=OwnG pms gv) (O':=c.O) (LT:=s.L) (L':=zbq ks (zdK ks Ts tbs)) (γ':=c.γ) (ρ':=c.ρ) (w':=w') hr.hγ (fun k hk=>(hr.stay k hk).2)
   (fun b ⟨i,_,h⟩=>⟨i,h⟩) (fun b ⟨i,h⟩=>by
    obtain ⟨els,h1,_⟩:=hgat i b h;refine ⟨90000+i,hι i b h,?_⟩;show (zjy pms ds ks Ts (90000+i)).2≠.dead;unfold zjy; rw [h1]; simp)
   (fun b hb=>⟨(hosub b hb).1,(hosub b hb).2.imp (hOws b).2 id⟩)
   ⟨hkept.os,hkept.tape,hkept.output,hkept.size,fun b h1 h2=>hkept.block b h1 fun h=>h2 (h.imp (hOws b).2 id),hkept.cells⟩
   (hr.mem.tab.swap (c':=zjv c.γ c.ρ c.O) rfl rfl (fun _=>Iff.rfl) (fun _ _=>trivial))
   (fun k hk=>by
    obtain ⟨T,a1,a2⟩:=n2 k hk;obtain ⟨j,hj,e⟩:=List.mem_iff_getElem.1 hk
    have hkj:(ksW ks)[j]? =some k:=by rw [←e]; simp
    have htj:tbs[j]? =some (tbs[j]'(by omega)):=by simp
    have h3:=zxt (L:=s.L) s.L hnk hkj htj;rw [a2] at h3;injection h3 with _ h3; injection h3 with _ h3
    have hf:(ks.filter (·.2))[j]? =some (k,true):=by
     unfold ksW at hkj;rw [List.getElem?_map] at hkj
     cases hx:(ks.filter (·.2))[j]? with
     | none=>rw [hx] at hkj; cases hkj
     | some p=>
      obtain ⟨k',b⟩:=p;rw [hx] at hkj;simp at hkj; subst hkj;have:=(List.mem_filter.1 (List.mem_of_getElem? hx)).2;simp at this; rw [this]
    obtain ⟨wr0,q1,q2⟩:=u2 j k true _ hf htj;rw [q2 rfl] at q1
    exact ⟨_,q1,by rw [a1,h3]⟩)
   (fun k hk=>by
    rw [zlU hTl hk];exact (zby (hL0 k)).symm)
  refine this.swap rfl rfl (fun b=>⟨fun h=>.inr h,fun h=>?_⟩) (fun _ _=>trivial)
  rcases h with ⟨h1,h2⟩ | h
  ·exact absurd ((hOws b).2 h1) h2
  ·exact h
 ·obtain ⟨els2,e1,e2,e3,e4⟩:=hback i sz h1;rw [h3] at e1; injection e1 with e1; subst e1;refine ⟨e3,?_⟩
  have hob:=hr.mem.get e2 (by simp)
  have hg:(zpc γ ρ O gv pms ds).ι (90000+i)=gv i:=by
   have hd:=h2;have hi:=za3 h2
   have hp:(pmAt pms i).1≠.lent:=by rw [h1]; simp
   have hgg:=zvt (i:=i) (by omega) hp hd
   show (match given pms ds (90000+i) with | some _=>gv (90000+i - 90000) | none=>none)=_
   rw [hgg,show 90000+i - 90000=i by omega]
  rw [e4 _ hg] at hob
  have:zma w' (own c s.L) w.heap.size c.γ (gv i) sz els':=by
   generalize gv i=β at hob ⊢
   cases β with
   | none=>exact hob
   | some b=>exact hob
  exact this.flat e3
end Wf

namespace Wf
open Go Go.RowKit
abbrev SoundP (P:Program) (f:FuncId) (szs:List Nat) (F:List D→Option D):Prop:=Sound P f (.pure szs F)
def Env.Ok (P:Program) (Γ:Env):Prop:=∀ f sp,Γ f=some sp→Sound P f sp
def Env.add (Γ:Env) (k:FuncId) (sp:Spec):Env:=fun f=>if f=k then some sp else Γ f
theorem Env.Ok.add {P:Program} {Γ:Env} (h:Env.Ok P Γ) {k:FuncId} {sp:Spec} (hk:Sound P k sp):Env.Ok P (Γ.add k sp):=by
 intro f s hf;unfold Env.add at hf;split at hf
 ·rename_i e;injection hf with hf; subst hf; subst e;exact hk
 ·exact h f s hf
end Wf

namespace Wf
open Go Go.RowKit Go.ChangeShapes Go.WideShapes
theorem Kept.below {w w':World} (h:Kept w (fun _=>False) w'):Below w.heap.size w w':=
 ⟨h.os,h.tape,h.output,h.size,fun k hk=>h.block k hk (fun h=>h)⟩
theorem SoundP.calls {P:Program} {f:FuncId} {szs:List Nat} {F:List D→Option D} (h:SoundP P f szs F) {ds:List D} {b:Bool} (hF:F ds=some (.bool b)) {us:List Value} {w:World}
  (hr:Reps w (fun _=>False) 0 (fun _ _=>none) ds us):Calls P f us.toArray w fun e w'=>e=.returned (.bool b)∧Below w.heap.size w w':=by
 refine (h.2 ds _ hF w _ us hr).mono fun e w' ⟨v,he,hk,hres⟩=>?_
 obtain ⟨ow,_,_,sz,_,_,hv⟩:=hres;cases hv;exact ⟨he,hk.below⟩
theorem zvv {H:Type} {enc:TypeId×Value→H} {P:Program} {f:Func} {s:ChangeSpec} {apart fresh handsOn again:Bool} {W W':World} {args:Array Value} {v:Value} {ds gs:List (DataW H)} {before pa pv:List MemPlace}
  (hW:DataW.Whole enc P f.params.toList s.vars apart W args.toList ds gs before)
  (hres:∀ (b:Nat) (sp:Nat→Bool) (hd:Bool),DataW.TrodAll enc P W' b sp hd f.resultTypes.toList (v.resultList f.resultTypes.size) (s.fn H (ds++gs)).results [])
  (hargs:∀ sp:Nat→Bool,(∀ p∈before,sp p.block=true)→DataW.TrodAll enc P W' 0 sp true f.params.toList args.toList (s.fn H (ds++gs)).args pa)
  (hvars:∀ sp:Nat→Bool,(∀ p∈before,sp p.block=true)→DataW.TrodVars enc P W' sp s.vars (s.fn H (ds++gs)).vars pv)
  (hps:before=pa++pv) (hb:Below W.heap.size W W')
  (hok:∀ (j:Nat) (t:TypeId) (r:Value),f.resultTypes[j]? =some t→(v.resultList f.resultTypes.size)[j]? =some r→Value.okWide P W' .any 0 t r):
  s.post enc P f apart fresh handsOn again W args v W':=by
 have hold:∀ p∈before,(fun b=>decide (b < W.heap.size)) p.block=true:=fun p hp=>by simpa using hW.lt p hp
 have hlt:∀ p∈before,p.block < W.heap.size:=fun p hp=>hW.lt p hp
 have hk:W.keptBut W' (· ∈before):=hb.frame _
 refine ⟨ds,gs,before,[],pa,pv,hW,hres _ _ _,hargs _ hold,hvars _ hold,World.keptBut_mono (fun p hp=>⟨hp,?_⟩) hk,fun _=>?_⟩
 ·rw [hps,List.mem_append] at hp;exact Or.inr hp
 ·obtain ⟨_,_,_,_,_,hz,hn⟩:=hW
  refine ⟨hok,_,_,([]++pa)++pv,⟨[]++pa,pv,trodAll_append (hargs _ (fun _ _=>rfl)) (hres _ _ _),hvars _ (fun _ _=>rfl),rfl,?_,?_⟩,?_⟩
  ·intro b off hp
   have hp':MemPlace.cell b off∈before:=by rw [hps]; simpa using hp
   rw [hb.frozen (p:=⟨b,off,none⟩) (hlt _ hp')];exact hz b off hp'
  ·intro ha;have:=hn ha;rw [hps] at this;simpa using this
  ·intro p hp _;rw [hps];simpa using hp
end Wf

namespace Wf
open Go Go.RowKit
def appT (L:Loc) (k g m:Nat) (T:Tb):Loc:=(L.set g ((L g).1,.dead)).set (tb k) ((L (tb k)).1,.tbl true (T++[List.replicate m .undef]))
def pubL (P:Program) (t:TypeId) (k g n:Nat) (L:Loc):Option (D×Loc):=
 match za6 L k with
 | some (true,T)=>match L.get g n with
  | .box true ds=>if zb9 P t=some ds.length then (ziG (appT L k g ds.length T) k T.length 0 ds.length true false (.d (.agg ds))).map fun o=>(.h k T.length 0,(appT L k g ds.length T).upd o.wr) else none
  | .vbox true ds ks vs=>if zb9 P t=some ds.length then (ziG (appT L k g ds.length T) k T.length 0 ds.length true false (.agg ds ks vs)).map fun o=>(.h k T.length 0,(appT L k g ds.length T).upd o.wr) else none
  | _=>none
 | _=>none
def pubS (P:Program) (t:TypeId) (k j:Nat) (s:St):Option St:=
 match s.slots[j]? with
 | some (.ptr g n 0)=>(pubL P t k g n s.L).map fun x=>{ slots:=s.slots.set j (.d x.1),L:=x.2 }
 | _=>none
section
variable {c:Ctx} {N:Nat} {w0:World} {O0:Nat→Prop} {L:Loc} {w:World}
theorem zBb (hm:Mem c N w0 O0 L w) {k g b:Nat} {T:Tb} {x:Array Value} {ty:TypeId} {fz:Nat×Nat}
  (hT:za6 L k=some (true,T)) (hlv:(L g).2.live=true) (hι:c.ι g=some b) (hb:w.heap[b]? =some (.cells x ty fz)) (hf:Unfrozen w b x.size) (hone:∀ (i:Nat) (u:Value),x[i]? =some u→u.oneCell'=true):
  ∃ c',Mem c' N w0 O0 (appT L k g x.size T) w∧Grow c L w c' (appT L k g x.size T) w∧c'.γ k T.length=some b:=by
 have hgk:∀ q,g≠tb q:=by rintro q rfl; rw [hm.iotab] at hι; cases hι
 have hgd:(L g).2≠.dead:=by intro e; rw [e] at hlv; cases hlv
 obtain ⟨mb1,mb2,mb3⟩:=hm.mine g b hι hgd
 let c':Ctx:={ c with γ:=fun k' i'=>if k'=k∧i'=T.length then some b else c.γ k' i',O:=fun b'=>c.O b'∨b'=b }
 have hfresh:c.γ k T.length=none:=by
  cases h:c.γ k T.length with
  | none=>rfl
  | some b'=>have:=hm.tab.tight k true T _ b' hT h; omega
 have hγ:∀ k' i' a,c.γ k' i'=some a→c'.γ k' i'=some a:=by
  intro k' i' a h
  show (if k'=k∧i'=T.length then some b else c.γ k' i')=some a
  rw [if_neg]
  ·exact h
  ·rintro ⟨rfl,rfl⟩; rw [hfresh] at h; cases h
 have hγk:c'.γ k T.length=some b:=by show (if k=k∧T.length=T.length then some b else _)=some b; simp
 have hγo:∀ k' i',¬ (k'=k∧i'=T.length)→c'.γ k' i'=c.γ k' i':=fun k' i' h=>by
  show (if k'=k∧i'=T.length then some b else c.γ k' i')=_
  rw [if_neg h]
 let L1:=appT L k g x.size T
 have hL1k:L1 (tb k)=((L (tb k)).1,.tbl true (T++[List.replicate x.size .undef])):=by show (Loc.set _ _ _) _=_; rw [Loc.set_same]
 have hL1g:L1 g=((L g).1,.dead):=by show (Loc.set _ _ _) _=_; rw [Loc.set_ne _ _ (hgk k),Loc.set_same]
 have hL1o:∀ q,q≠g→q≠tb k→L1 q=L q:=fun q h1 h2=>by show (Loc.set _ _ _) _=_; rw [Loc.set_ne _ _ h2,Loc.set_ne _ _ h1]
 have hL1t:∀ q,q≠k→L1 (tb q)=L (tb q):=fun q h=>hL1o _ (fun e=>hgk q e.symm) (fun e=>h (zfq e))
 have htab:∀ k',za6 L1 k'=if k'=k then some (true,T++[List.replicate x.size .undef]) else za6 L k':=by
  intro k'
  by_cases e:k'=k
  ·subst e; rw [if_pos rfl]; exact zed.2 (by rw [hL1k])
  ·rw [if_neg e]; exact zby (hL1t k' e)
 have hlast:∀ i cs,(T++[List.replicate x.size .undef])[i]? =some cs→(i < T.length∧T[i]? =some cs)∨(i=T.length∧cs=List.replicate x.size .undef):=by
  intro i cs h
  by_cases hi:i < T.length
  ·rw [List.getElem?_append_left hi] at h; exact .inl ⟨hi,h⟩
  ·rw [List.getElem?_append_right (by omega)] at h
   have:i - T.length=0:=by
    have:=za3 h; simp at this; omega
   rw [this] at h;simp at h
   exact .inr ⟨by omega,h.symm⟩
 have hcellT:∀ i o d,zdc (T++[List.replicate x.size .undef]) i o=some d→d.isRow=true→zdc T i o=some d:=by
  intro i o d h hr;unfold zdc at h ⊢
  cases hx:(T++[List.replicate x.size .undef])[i]? with
  | none=>rw [hx] at h; cases h
  | some cs=>
   rw [hx] at h;rcases hlast i cs hx with ⟨_,h1⟩ | ⟨_,h1⟩
   ·rw [h1]; exact h
   ·subst h1;have:=List.mem_of_getElem? h;rw [List.mem_replicate] at this;rw [this.2] at hr; cases hr
 have hthere:∀ k' i' q,zcq L1 k' i' q→(zcq L k' i' q∧c'.tab k' i' q=c.tab k' i' q)∨(k'=k∧i'=T.length∧q=none):=by
  intro k' i' q h
  cases q with
  | none=>
   obtain ⟨wr,T0,h1,h2⟩:=h;rw [htab] at h1
   by_cases ek:k'=k
   ·subst ek;rw [if_pos rfl] at h1; cases h1
    by_cases hi:i' < T.length
    ·exact .inl ⟨⟨_,_,hT,hi⟩,hγo _ _ fun h=>by omega⟩
    ·simp at h2
     exact .inr ⟨rfl,by omega,rfl⟩
   ·rw [if_neg ek] at h1
    exact .inl ⟨⟨_,_,h1,h2⟩,hγo _ _ fun h=>ek h.1⟩
  | some o=>
   obtain ⟨wr,T0,d,h1,h2,h3⟩:=h;refine .inl ⟨?_,rfl⟩;rw [htab] at h1
   by_cases ek:k'=k
   ·subst ek;rw [if_pos rfl] at h1; cases h1;exact ⟨_,_,d,hT,hcellT _ _ _ h2 h3,h3⟩
   ·rw [if_neg ek] at h1; exact ⟨_,_,d,h1,h2,h3⟩
 have hbno:∀ k' i' q,zcq L k' i' q→c.tab k' i' q≠some b:=by
  intro k' i' q h e;obtain ⟨wr,T',hT'⟩:=h.tab
  cases wr with
  | true=>exact mb3 (hm.tab.wr k' T' i' q b hT' h e)
  | false=>
   obtain ⟨_,a1,a2⟩:=hm.tab.ro k' T' i' q b hT' h e;rcases mb1 with h | h
   ·omega
   ·exact a2 h
 have htr:TabRel L1 c' (fun b=>b < N∧¬ O0 b) w:=by
  refine ⟨fun k' wr T0 i' cs h1 h2=>?_,fun k' wr T0 i' b' h1 h2=>?_,fun k1 i1 q1 k2 i2 q2 b' h1 h2 h3 h4=>?_,fun k' T0 i' q b' h1 h2 h3=>?_,fun k' T0 i' q b' h1 h2 h3=>?_⟩
  ·have old:∀ T1,za6 L k'=some (wr,T1)→T1[i']? =some cs→∃ (b:Nat) (x:Array Value) (ty:TypeId) (fz:Nat×Nat),c'.γ k' i'=some b∧w.heap[b]? =some (.cells x ty fz)∧Unfrozen w b x.size∧x.size=cs.length∧
     ∀ (o:Nat) (d:D) (u:Value),cs[o]? =some d→x[o]? =some u→u.oneCell'=true∧CellOk c'.γ w (zcS k' o) (c'.ρ k' i' o) d u:=by
    intro T1 h1 h2;obtain ⟨b1,x1,ty1,fz1,p1,p2,p3,p4,p5⟩:=hm.tab.obj k' wr T1 i' cs h1 h2
    exact ⟨b1,x1,ty1,fz1,hγ _ _ _ p1,p2,p3,p4,fun o d u hd hu=>⟨(p5 o d u hd hu).1,(p5 o d u hd hu).2.mono (fun _ _=>rfl) hγ⟩⟩
   rw [htab] at h1
   by_cases ek:k'=k
   ·subst ek;rw [if_pos rfl] at h1; cases h1;rcases hlast i' cs h2 with ⟨_,h3⟩ | ⟨h3,h4⟩
    ·exact old T hT h3
    ·subst h3; subst h4
     refine ⟨b,x,ty,fz,hγk,hb,hf,by simp,fun o d u hd hu=>⟨hone o u hu,?_⟩⟩
     have:=List.mem_of_getElem? hd;rw [List.mem_replicate] at this;rw [this.2]; exact .undef u
   ·rw [if_neg ek] at h1; exact old T0 h1 h2
  ·rw [htab] at h1
   by_cases ek:k'=k
   ·subst ek;rw [if_pos rfl] at h1; cases h1
    by_cases hi:i'=T.length
    ·subst hi; simp
    ·rw [hγo _ _ fun h=>hi h.2] at h2
     have:=hm.tab.tight k' true T i' b' hT h2;simp; omega
   ·rw [if_neg ek] at h1
    rw [hγo _ _ fun h=>ek h.1] at h2
    exact hm.tab.tight k' wr T0 i' b' h1 h2
  ·rcases hthere _ _ _ h1 with ⟨a1,a2⟩ | ⟨rfl,rfl,rfl⟩<;>rcases hthere _ _ _ h2 with ⟨d1,d2⟩ | ⟨rfl,rfl,rfl⟩
   ·rw [a2] at h3; rw [d2] at h4;exact hm.tab.inj _ _ _ _ _ _ b' a1 d1 h3 h4
   ·rw [a2] at h3
    have:b'=b:=by simp only [Ctx.tab,hγk] at h4; exact (Option.some.inj h4).symm
    subst this;exact absurd h3 (hbno _ _ _ a1)
   ·rw [d2] at h4
    have:b'=b:=by simp only [Ctx.tab,hγk] at h3; exact (Option.some.inj h3).symm
    subst this;exact absurd h4 (hbno _ _ _ d1)
   ·exact ⟨rfl,rfl,rfl⟩
  ·rcases hthere _ _ _ h2 with ⟨a1,a2⟩ | ⟨rfl,rfl,rfl⟩
   ·rw [a2] at h3;rw [htab] at h1
    by_cases ek:k'=k
    ·subst ek; exact .inl (hm.tab.wr k' T i' q b' hT a1 h3)
    ·rw [if_neg ek] at h1; exact .inl (hm.tab.wr k' T0 i' q b' h1 a1 h3)
   ·simp only [Ctx.tab,hγk] at h3;exact .inr (Option.some.inj h3).symm
  ·rw [htab] at h1
   by_cases ek:k'=k
   ·rw [if_pos ek] at h1; cases h1
   ·rw [if_neg ek] at h1;rcases hthere _ _ _ h2 with ⟨a1,a2⟩ | ⟨rfl,rfl,rfl⟩
    ·rw [a2] at h3;obtain ⟨e1,e2⟩:=hm.tab.ro k' T0 i' q b' h1 a1 h3;refine ⟨?_,e2⟩
     rintro (e | e)
     ·exact e1 e
     ·subst e; exact hbno _ _ _ a1 h3
    ·exact absurd rfl ek
 have hgrow:Grow c L w c' L1 w:=by
  refine ⟨Nat.le_refl _,fun _ _ _=>rfl,?_,hγ,fun _ _ _ _ _=>rfl,zrm hT hL1t (fun q e=>?_) (fun _ _=>rfl),fun b' y T' fz' h _=>⟨y,fz',h,rfl⟩,fun q=>?_,fun q hq=>?_⟩
  ·rintro b' _ (h | ⟨q,h1,h2⟩)
   ·rcases h with h | rfl
    ·exact .inl h
    ·exact .inr ⟨g,hι,hlv⟩
   ·by_cases e1:q=g
    ·subst e1; rw [hL1g] at h2; cases h2
    ·by_cases e2:q=tb k
     ·subst e2; rw [hL1k] at h2; cases h2
     ·rw [hL1o q e1 e2] at h2; exact .inr ⟨q,h1,h2⟩
  ·funext i'; exact hγo q i' fun h=>e h.1
  ·by_cases e1:q=g
   ·subst e1; rw [hL1g]; exact Nat.le_refl _
   ·by_cases e2:q=tb k
    ·subst e2; rw [hL1k]; exact Nat.le_refl _
    ·rw [hL1o q e1 e2]; exact Nat.le_refl _
  ·by_cases e1:q=g
   ·subst e1; rw [hL1g]; exact .inl rfl
   ·by_cases e2:q=tb k
    ·subst e2;rw [hL1k,zed.1 hT]
     refine .inr ⟨rfl,rfl,fun i o=>⟨fun l h=>⟨l,hcellT i o _ h rfl,rfl⟩,fun kk es h=>⟨es,hcellT i o _ h rfl⟩⟩⟩
    ·rw [hL1o q e1 e2]; exact .inr ⟨rfl,zb1.refl _⟩
 have hnd:∀ q b',c'.ι q=some b'→(L1 q).2≠.dead→q≠g∧L1 q=L q∧c.ι q=some b':=by
  intro q b' h1 h2
  have e1:q≠g:=by rintro rfl; rw [hL1g] at h2; exact h2 rfl
  have e2:q≠tb k:=by rintro rfl; rw [show c'.ι (tb k)=c.ι (tb k) from rfl,hm.iotab] at h1; cases h1
  exact ⟨e1,hL1o q e1 e2,h1⟩
 refine ⟨c',⟨fun q=>?_,fun q q' b' h1 h2 h3 h4=>?_,fun q b' h1 h2=>?_,fun q b' h1 h2 h3=>?_,htr,hm.iotab,fun k'=>?_,hm.size,hm.size0,hm.os,hm.tape,hm.output,hm.keep,fun b' hb'=>?_⟩,hgrow,hγk⟩
 ·show zgt c' L1 w N (c.ι q) (L1 q).2
  by_cases e1:q=g
  ·subst e1; rw [hL1g]; trivial
  ·by_cases e2:q=tb k
   ·subst e2; rw [hL1k]; trivial
   ·rw [hL1o q e1 e2]; exact (hm.obj q).grow hgrow fun _ _ _=>rfl
 ·have h3:(L1 q).2≠.dead:=h3;have h4:(L1 q').2≠.dead:=h4;obtain ⟨_,e1,e2⟩:=hnd q b' h1 h3;obtain ⟨_,e3,e4⟩:=hnd q' b' h2 h4;rw [e1] at h3; rw [e3] at h4;exact hm.inj q q' b' e2 e4 h3 h4
 ·have h2:(L1 q).2≠.dead:=h2;obtain ⟨e0,e1,e2⟩:=hnd q b' h1 h2;rw [e1] at h2;obtain ⟨a1,a2,a3⟩:=hm.mine q b' e2 h2;refine ⟨a1,a2,?_⟩
  rintro (h | rfl)
  ·exact a3 h
  ·exact e0 (hm.inj q g b' e2 hι h2 hgd)
 ·have h2:(L1 q).2≠.dead:=h2;have h3:∀ sz els,(L1 q).2≠.trow sz els:=h3;obtain ⟨e0,e1,e2⟩:=hnd q b' h1 h2;rw [e1] at h2 h3;exact hm.mineN q b' e2 h2 h3
 ·show (L1 (tb k')).2=.dead∨∃ wr T,(L1 (tb k')).2=.tbl wr T
  by_cases e:k'=k
  ·subst e; rw [hL1k]; exact .inr ⟨_,_,rfl⟩
  ·rw [hL1t k' e]; exact hm.only k'
 ·rcases hb' with h | rfl
  ·exact hm.osub b' h
  ·exact ⟨mb2,mb1.symm⟩
theorem zCz {b:Nat} {x:Array Value} {ty:TypeId} {fz:Nat×Nat} (hb:w.heap[b]? =some (.cells x ty fz)):put w b (splice x 0 x.toList) ty fz=w:=by
 have hx:splice x 0 x.toList=x:=by
  apply Array.ext';apply List.ext_getElem?;intro i
  rw [Array.getElem?_toList,zcx (by simp),Array.getElem?_toList]
  by_cases hi:i < x.size
  ·rw [if_pos ⟨Nat.zero_le _,by simpa using hi⟩]; simp
  ·rw [if_neg (by simp; omega)]; simp
 rw [hx];exact zzT hb
theorem zGJ {P:Program} (hm:Mem c N w0 O0 L w) {t k g n:Nat} {d:D} {L2:Loc} (h:pubL P t k g n L=some (d,L2)) {u:Value} (hv:Val c L w N (.ptr g n 0) u):
  ∃ c',Mem c' N w0 O0 L2 w∧Grow c L w c' L2 w∧Val c' L2 w N (.d d) u:=by
 unfold pubL at h;split at h
 rotate_left
 ·cases h
 rename_i T hT
 have core:∀ (V0:V) (b:Nat) (x:Array Value) (ty:TypeId) (fz:Nat×Nat) (m:Nat),(L.get g n).live=true→c.ι g=some b→w.heap[b]? =some (.cells x ty fz)→Unfrozen w b x.size→x.size=m→(∀ (i:Nat) (u:Value),x[i]? =some u→u.oneCell'=true)→
   Val c L w N V0 (.agg x)→zb9 P t=some m→(ziG (appT L k g m T) k T.length 0 m true false V0).map (fun o=>(D.h k T.length 0,(appT L k g m T).upd o.wr))=some (d,L2)→
   ∃ c',Mem c' N w0 O0 L2 w∧Grow c L w c' L2 w∧Val c' L2 w N (.d d) u:=by
  intro V0 b x ty fz m hlv hι hb hf hm' hone hV hsz ho;subst hm';obtain ⟨e1,e2⟩:=zEt rfl hlv
  obtain ⟨c1,m1,g1,hγ⟩:=zBb hm hT (by rw [e2]; exact hlv) hι hb hf hone
  cases hst:ziG (appT L k g x.size T) k T.length 0 x.size true false V0 with
  | none=>rw [hst] at ho; cases ho
  | some o=>
   rw [hst] at ho;injection ho with ho; injection ho with h1 h2;subst h1
   have hu:u=.pointer (some ⟨b,0,none⟩):=by
    cases hv with
    | ptr _ _ _ _ k1 k2=>
     obtain ⟨b',q1,q2⟩:=k2 (by intro e; rw [e] at hlv; cases hlv)
     rw [hι] at q1; cases q1; exact q2
   subst hu;have hp:Val c1 (appT L k g x.size T) w N (.d (.h k T.length 0)) (.pointer (some ⟨b,0,none⟩)):=.d _ _ (.h _ _ _ b hγ)
   obtain ⟨w',r1,c2,r2,r3,_⟩:=zw5 m1 (fun _ _ _=>rfl) hsz hst hp (hV.grow g1)
   have r1':=zep (P:=P) (o:=0) (v:=.agg x) hsz hb (by simp [Value.cells]) (by omega) hf (by simpa [Value.cells] using hone)
   rw [r1'] at r1;injection r1 with _ r1;have hw:put w b (splice x 0 (Value.agg x).cells.toList) ty fz=w:=zCz hb;rw [hw] at r1;subst r1;subst h2;exact ⟨c2,r2,g1.trans r3,hp.grow r3⟩
 split at h
 ·rename_i ds hL;split at h
  rotate_left
  ·cases h
  rename_i hsz
  obtain ⟨b,x,ty,fz,p1,p2,p3,p4,p5⟩:=hm.get hL (by simp)
  have hone:∀ (i:Nat) (u:Value),x[i]? =some u→u.oneCell'=true:=fun i u hu=>by
   have hi:i < ds.length:=by have:=zdd hu; omega
   exact (p5 i _ u (List.getElem?_eq_getElem hi) hu).2
  exact core (.d (.agg ds)) b x ty fz ds.length (by rw [hL]; rfl) p1 p2 p3 p4 hone (.d _ _ (.agg _ _ p4 (fun i d v hd hv=>(p5 i d v hd hv).1) hone)) hsz h
 ·rename_i ds ks vs hL;split at h
  rotate_left
  ·cases h
  rename_i hsz
  obtain ⟨b,x,ty,fz,p1,p2,p3,p4,p5⟩:=hm.get hL (by simp)
  have hlen:(ovs ks vs (ds.map V.d)).length=ds.length:=by rw [zcE]; simp
  have hone:∀ (i:Nat) (u:Value),x[i]? =some u→u.oneCell'=true:=fun i u hu=>by
   have hi:i < (ovs ks vs (ds.map V.d)).length:=by have:=zdd hu; omega
   exact (p5 i _ u (List.getElem?_eq_getElem hi) hu).2
  exact core (.agg ds ks vs) b x ty fz ds.length (by rw [hL]; rfl) p1 p2 p3 p4 hone (.agg _ _ _ _ p4 (fun i v u ha hu=>(p5 i v u ha hu).1) hone) hsz h
 ·cases h
theorem zGK {γ0:E0} {P:Program} {t k j:Nat} {s s':St} {a:Act} (h:pubS P t k j s=some s') (hr:Rel N w0 O0 γ0 s a w):Rel N w0 O0 γ0 s' a w:=by
 obtain ⟨c,hr⟩:=hr;unfold pubS at h;split at h
 rotate_left
 ·cases h
 rename_i g n hs
 cases hp:pubL P t k g n s.L with
 | none=>rw [hp] at h; cases h
 | some y=>
  obtain ⟨d,L2⟩:=y;rw [hp] at h;injection h with h; subst h
  have hj:j < a.tmps.toList.length:=by rw [hr.slots.1]; exact (List.getElem?_eq_some_iff.1 hs).1
  have hu:=List.getElem?_eq_getElem hj;obtain ⟨c',m,g',v⟩:=zGJ hr.mem hp (hr.slots.2 j _ _ hs hu)
  refine ⟨c',m,⟨by simp [hr.slots.1],fun i v' u' h1 h2=>?_⟩,hr.defers,fun n i x hx=>g'.hγ n i x (hr.hγ n i x hx),fun k hk=>?_,RelC.given' hr.given g',hr.cells⟩
  ·dsimp only at h1;rw [List.getElem?_set] at h1
   by_cases e:j=i
   ·subst e;simp only [if_true] at h1;split at h1
    ·injection h1 with h1; subst h1;rw [hu] at h2; injection h2 with h2; subst h2;exact v
    ·cases h1
   ·rw [if_neg e] at h1;exact (hr.slots.2 i v' u' h1 h2).grow g'
  ·obtain ⟨a1,a2,a3⟩:=hr.stay k hk;obtain ⟨b1,b2,b3⟩:=g'.stay k a1;exact ⟨b1,b2.trans a2,b3.trans a3⟩
end
end Wf

namespace Wf
open Go Go.RowKit
theorem zf9 {P:Program} {ty sz n:Nat} (h0:zcK P ty 0=some sz) (h:n≤4294967296):zcK P ty n=some sz:=by
 unfold zcK at*;split at h0
 ·split at h0
  ·split at h0
   ·rename_i hc
    rw [if_pos ⟨hc.1,hc.2.1,hc.2.2.1,hc.2.2.2.1,by simpa using h⟩]
    exact h0
   ·cases h0
  ·cases h0
 ·cases h0
section
variable {R α:Type}
def brK (b:Bool) (x y:Option R):Option R:=match b with
 | true=>x
 | false=>y
def br (b:Bool) (f:Bool→Option R):Option R:=brK b (f true) (f false)
def zar (x:Option α) (f:α→Option R):Option R:=match x with
 | some a=>f a
 | none=>none
def sif (c:Prop) [Decidable c] (x:Option R):Option R:=if c then x else none
def letN (n:Int) (f:Int→Option R):Option R:=f n
@[simp] theorem zam (n:Int) (f:Int→Option R):letN n f=f n:=rfl
def getK (l:List α) (i:Nat) (f:α→Option R):Option R:=match l[i]? with
 | some d=>f d
 | none=>none
def jn (g:α→Option R) (f:(α→Option R)→Option R):Option R:=f g
def fixN (B:(α→Option R)→α→Option R):Nat→α→Option R
 | 0=>fun _=>none
 | n+1=>B (fixN B n)
noncomputable def fuel:Nat:=Classical.choose (⟨1099511627776,Nat.le_refl _⟩:∃ n:Nat,1099511627776≤n)
theorem zpd:1099511627776≤fuel:=Classical.choose_spec (⟨1099511627776,Nat.le_refl _⟩:∃ n:Nat,1099511627776≤n)
noncomputable def zb2 (B:(α→Option R)→α→Option R) (a:α):Option R:=fixN B fuel a
noncomputable def zJs (_:Nat) (B:(α→Option R)→α→Option R) (a:α):Option R:=zb2 B a
def zh9:List α→(List α→Option R)→Option R
 | [],k=>k []
 | a::l,k=>zh9 l fun l=>k (a::l)
theorem zd5 (l:List α) (k:List α→Option R):zh9 l k=k l:=by
 induction l generalizing k with
 | nil=>rfl
 | cons a l ih=>exact ih _
def asI (k:IntKind) (d:D) (f:Int→Option R):Option R:=match d with
 | .int k' n=>if k'=k then f n else none
 | _=>none
def asB (d:D) (f:Bool→Option R):Option R:=match d with
 | .bool b=>f b
 | _=>none
def asS (d:D) (f:ByteArray→Option R):Option R:=match d with
 | .str s=>f s
 | _=>none
def asSl (d:D) (f:Tag→List D→Option R):Option R:=match d with
 | .sl t l=>f t l
 | _=>none
def zbn (d:D) (f:List D→Option R):Option R:=match d with
 | .sl .own l=>f l
 | _=>none
def zmE (d:D) (f:List D→Option R):Option R:=match d with
 | .sl .lent l=>f l
 | _=>none
def asAgg (d:D) (f:List D→Option R):Option R:=match d with
 | .agg cs=>f cs
 | _=>none
def zCA (l:List D) (f:D→Option R):Option R:=match l with
 | [d]=>f d
 | _=>none
def ze3 (d:D) (f:List D→Option R):Option R:=match d with
 | .tup cs=>f cs
 | _=>none
def zGL (g:FuncId) (d:D) (f:D→Option R):Option R:=match d with
 | .fn g' [] [.at_ x]=>if g'=g then f x else none
 | _=>none
def asH (k:Nat) (d:D) (f:Nat→Option R):Option R:=match d with
 | .h k' i 0=>if k'=k then f i else none
 | _=>none
def zpe (d:D) (f:Bool→Option R):Option R:=match d with
 | .nilp=>f true
 | .h _ _ _=>f false
 | .at_ _=>f false
 | _=>none
def zrE (d:D) (f:Bool→Option R):Option R:=match d with
 | .nilm=>f true
 | .mp _ _ _=>f false
 | _=>none
def ziQ (kk:MK) (d:D) (f:List (Int×D)→Option R):Option R:=match d with
 | .mp .own kk' es=>if kk'=kk then f es else none
 | _=>none
def zrF (kk:MK) (d:D) (f:List (Int×D)→Option R):Option R:=match d with
 | .mp .lent kk' es=>if kk'=kk then f es else none
 | _=>none
def letT (T:Tb) (f:Tb→Option R):Option R:=f T
def zc1 (l:List α) (f:α→List α→Option R):Option R:=match l with
 | a::r=>f a r
 | []=>none
def nilK (l:List α) (x:Option R):Option R:=match l with
 | []=>x
 | _::_=>none
def zEC:Nat→List α→(List α→Option R)→Option R
 | 0,l,k=>nilK l (k [])
 | n+1,l,k=>zc1 l fun a r=>zEC n r fun ay_=>k (a::ay_)
end
inductive Lf where
 | int (k:IntKind) | bool | str | sl | lent | any | arr (n:Nat) | hnd (k:Nat) | map (kk:MK) | mapo (kk:MK)
 deriving DecidableEq,Inhabited
@[reducible] def Lf.T:Lf→Type
 | .int _=>Int
 | .bool=>Bool
 | .str=>ByteArray
 | .sl=>Tag×List D
 | .lent=>List D
 | .any=>D
 | .arr _=>List D
 | .hnd _=>Nat
 | .map _=>List (Int×D)
 | .mapo _=>List (Int×D)
@[reducible] def LfT:List Lf→Type
 | []=>Unit
 | l::r=>l.T×LfT r
def Lf.one:(l:Lf)→l.T→D
 | .int k,n=>.int k n
 | .bool,b=>.bool b
 | .str,s=>.str s
 | .sl,x=>.sl x.1 x.2
 | .lent,l=>.sl .lent l
 | .any,d=>d
 | .arr _,xs=>.agg xs
 | .hnd k,i=>.h k i 0
 | .map kk,es=>.mp .lent kk es
 | .mapo kk,es=>.mp .own kk es
def Lf.mk:(l:Lf)→l.T→List D
 | .int k,n=>[.int k n]
 | .bool,b=>[.bool b]
 | .str,s=>[.str s]
 | .sl,x=>[.sl x.1 x.2]
 | .lent,l=>[.sl .lent l]
 | .any,d=>[d]
 | .arr _,xs=>xs
 | .hnd k,i=>[.h k i 0]
 | .map kk,es=>[.mp .lent kk es]
 | .mapo kk,es=>[.mp .own kk es]
def zho:(ls:List Lf)→LfT ls→List D
 | [],_=>[]
 | l::r,x=>l.mk x.1++zho r x.2
section
variable {R:Type}
def Lf.getOne:(l:Lf)→D→(l.T→Option R)→Option R
 | .int k,d,f=>asI k d f
 | .bool,d,f=>asB d f
 | .str,d,f=>asS d f
 | .sl,d,f=>asSl d fun t l=>f (t,l)
 | .lent,d,f=>zmE d f
 | .any,d,f=>f d
 | .arr n,d,f=>asAgg d fun cs=>sif (cs.length=n) (f cs)
 | .hnd k,d,f=>asH k d f
 | .map kk,d,f=>zrF kk d f
 | .mapo kk,d,f=>ziQ kk d f
def Lf.get (l:Lf) (cs:List D) (f:l.T→List D→Option R):Option R:=match l with
 | .arr n=>sif (n≤cs.length) (f (cs.take n) (cs.drop n))
 | .int k=>match cs with
  | d::r=>asI k d fun x=>f x r
  | []=>none
 | .bool=>match cs with
  | d::r=>asB d fun x=>f x r
  | []=>none
 | .str=>match cs with
  | d::r=>asS d fun x=>f x r
  | []=>none
 | .sl=>match cs with
  | d::r=>asSl d fun t l=>f (t,l) r
  | []=>none
 | .lent=>match cs with
  | d::r=>zmE d fun l=>f l r
  | []=>none
 | .any=>match cs with
  | d::r=>f d r
  | []=>none
 | .hnd k=>match cs with
  | d::r=>asH k d fun i=>f i r
  | []=>none
 | .map kk=>match cs with
  | d::r=>zrF kk d fun es=>f es r
  | []=>none
 | .mapo kk=>match cs with
  | d::r=>ziQ kk d fun es=>f es r
  | []=>none
def zd6:(ls:List Lf)→List D→(LfT ls→Option R)→Option R
 | [],[],f=>f ()
 | [],_::_,_=>none
 | l::ls,cs,f=>l.get cs fun x r=>zd6 ls r fun y=>f (x,y)
def zaz (ls:List Lf) (cs:List D) (f:LfT ls→Option R):Option R:=zd6 ls cs f
end
inductive Sh where
 | cell (l:Lf) | agg (ls:List Lf) | at1 (l:Lf) | atA (ls:List Lf) | fn1 (f:FuncId) (l:Lf)
 deriving DecidableEq,Inhabited
@[reducible] def Sh.T:Sh→Type
 | .cell l=>l.T
 | .agg ls=>LfT ls
 | .at1 l=>l.T
 | .atA ls=>LfT ls
 | .fn1 _ l=>l.T
def Sh.mk:(s:Sh)→s.T→D
 | .cell l,x=>l.one x
 | .agg ls,x=>.agg (zho ls x)
 | .at1 l,x=>.at_ (l.one x)
 | .atA ls,x=>.at_ (.agg (zho ls x))
 | .fn1 f l,x=>.fn f [] [.at_ (l.one x)]
def asAt {R:Type} (d:D) (f:D→Option R):Option R:=match d with
 | .at_ x=>f x
 | _=>none
def Sh.get {R:Type}:(s:Sh)→D→(s.T→Option R)→Option R
 | .cell l,d,f=>l.getOne d f
 | .agg ls,d,f=>asAgg d fun cs=>zaz ls cs f
 | .at1 l,d,f=>asAt d fun d=>l.getOne d f
 | .atA ls,d,f=>asAt d fun d=>asAgg d fun cs=>zaz ls cs f
 | .fn1 g l,d,f=>zGL g d fun d=>l.getOne d f
def tyLf (P:Program):Nat→TypeId→Option (List Lf)
 | 0,_=>none
 | d+1,t=>match P.underlying t with
  | some (.int k)=>some [.int k]
  | some .bool=>some [.bool]
  | some .string=>some [.str]
  | some (.slice _)=>some [.sl]
  | some (.struct fs)=>(fs.toList.mapM fun f=>tyLf P d f.type).map List.flatten
  | some (.array n e)=>(zb9 P e).map fun sz=>[.arr (n*sz)]
  | some _=>some [.any]
  | none=>none
def tySh (P:Program) (t:TypeId):Option Sh:=
 match P.underlying t with
 | some (.struct _)=>(tyLf P 8 t).map .agg
 | _=>match tyLf P 8 t with
  | some [l]=>some (.cell l)
  | _=>none
section
variable {R:Type}
def decT (P:Program) (t:TypeId) (d:D) (f:D→Option R):Option R:=
 match zl9 P t with
 | some (kk,_)=>ziQ kk d fun es=>f (.mp .own kk es)
 | none=>match tySh P t with
  | some sh=>sh.get d fun x=>f (sh.mk x)
  | none=>none
def decP (P:Program) (own:Bool) (hint:Option Sh) (t:TypeId) (d:D) (f:D→Option R):Option R:=
 if own then zbn d fun l=>f (.sl .own l)
 else match hint with
 | some sh=>sh.get d fun x=>f (sh.mk x)
 | none=>match zGo P t with
  | some k=>asH k d fun i=>f (.h k i 0)
  | none=>match zl9 P t with
  | some (kk,_)=>zrF kk d fun es=>f (.mp .lent kk es)
  | none=>match tySh P t with
   | some (.cell .sl)=>zmE d fun l=>f (.sl .lent l)
   | some sh=>sh.get d fun x=>f (sh.mk x)
   | none=>none
abbrev zvw:=List (Nat×Sh)
def zvw.at:zvw→Nat→Option Sh
 | [],_=>none
 | (i,s)::r,j=>if i=j then some s else zvw.at r j
def zBc (P:Program) (pms:List (PM×Nat)) (hs:zvw):Nat→List TypeId→List D→(List D→Option R)→Option R
 | _,[],[],f=>f []
 | i,[],d::ds,f=>match hs.at i with
  | some sh=>sh.get d fun x=>zBc P pms hs (i+1) [] ds fun xs=>f (sh.mk x::xs)
  | none=>none
 | i,t::ts,d::ds,f=>decP P (decide ((pmAt pms i).1≠.lent)) (hs.at i) t d fun x=>zBc P pms hs (i+1) ts ds fun xs=>f (x::xs)
 | _,_,_,_=>none
theorem zaT {c:Prop} [Decidable c] {x:Option R} {r:R} (h:sif c x=some r):c∧x=some r:=by
 unfold sif at h;split at h
 ·exact ⟨by assumption,h⟩
 ·cases h
theorem zcL {A B:Prop} [Decidable A] [Decidable B] {x:Option R} {r:R} (h:sif A (sif B (x))=some r):(A∧B)∧x=some r:=by
 obtain ⟨a,h⟩:=zaT h;obtain ⟨b,h⟩:=zaT h;exact ⟨⟨a,b⟩,h⟩
theorem zdS {A B C:Prop} [Decidable A] [Decidable B] [Decidable C] {x:Option R} {r:R} (h:sif A (sif B (sif C (x)))=some r):(A∧B∧C)∧x=some r:=by
 obtain ⟨a,h⟩:=zaT h;obtain ⟨b,h⟩:=zcL h;exact ⟨⟨a,b⟩,h⟩
theorem zcF {A B C D':Prop} [Decidable A] [Decidable B] [Decidable C] [Decidable D'] {x:Option R} {r:R} (h:sif A (sif B (sif C (sif D' (x))))=some r):(A∧B∧C∧D')∧x=some r:=by
 obtain ⟨a,h⟩:=zaT h;obtain ⟨b,h⟩:=zdS h;exact ⟨⟨a,b⟩,h⟩
theorem zn3 {A B C D' E:Prop} [Decidable A] [Decidable B] [Decidable C] [Decidable D'] [Decidable E] {x:Option R} {r:R} (h:sif A (sif B (sif C (sif D' (sif E (x)))))=some r):(A∧B∧C∧D'∧E)∧x=some r:=by
 obtain ⟨a,h⟩:=zaT h;obtain ⟨b,h⟩:=zcF h;exact ⟨⟨a,b⟩,h⟩
theorem zn4 {A B C D' E F:Prop} [Decidable A] [Decidable B] [Decidable C] [Decidable D'] [Decidable E] [Decidable F] {x:Option R} {r:R} (h:sif A (sif B (sif C (sif D' (sif E (sif F (x))))))=some r):(A∧B∧C∧D'∧E∧F)∧x=some r:=by
 obtain ⟨a,h⟩:=zaT h;obtain ⟨b,h⟩:=zn3 h;exact ⟨⟨a,b⟩,h⟩
theorem zCB {A B C D' E F G:Prop} [Decidable A] [Decidable B] [Decidable C] [Decidable D'] [Decidable E] [Decidable F] [Decidable G] {x:Option R} {r:R} (h:sif A (sif B (sif C (sif D' (sif E (sif F (sif G (x)))))))=some r):(A∧B∧C∧D'∧E∧F∧G)∧x=some r:=by
 obtain ⟨a,h⟩:=zaT h;obtain ⟨b,h⟩:=zn4 h;exact ⟨⟨a,b⟩,h⟩
theorem zvx {b:Bool} {f:Bool→Option R} {r:R} (h:br b f=some r):f b=some r:=by
 cases b<;>exact h
theorem zua {α:Type} {x:Option α} {f:α→Option R} {r:R} (h:zar x f=some r):∃ a,x=some a∧f a=some r:=by
 cases x with
 | none=>cases h
 | some a=>exact ⟨a,rfl,h⟩
theorem zcM {α:Type} {l:List α} {i:Nat} {f:α→Option R} {r:R} (h:getK l i f=some r):∃ d,l[i]? =some d∧f d=some r:=by
 unfold getK at h;split at h
 ·exact ⟨_,by assumption,h⟩
 ·cases h
theorem zAd {k:IntKind} {d:D} {f:Int→Option R} {r:R} (h:asI k d f=some r):∃ n,d=.int k n∧f n=some r:=by
 unfold asI at h;split at h
 ·split at h
  ·rename_i e; subst e; exact ⟨_,rfl,h⟩
  ·cases h
 ·cases h
theorem zAe {d:D} {f:Bool→Option R} {r:R} (h:asB d f=some r):∃ n,d=.bool n∧f n=some r:=by
 unfold asB at h;split at h
 ·exact ⟨_,rfl,h⟩
 ·cases h
theorem zAf {d:D} {f:ByteArray→Option R} {r:R} (h:asS d f=some r):∃ n,d=.str n∧f n=some r:=by
 unfold asS at h;split at h
 ·exact ⟨_,rfl,h⟩
 ·cases h
theorem zBd {g:FuncId} {d:D} {f:D→Option R} {r:R} (h:zGL g d f=some r):∃ x,d=.fn g [] [.at_ x]∧f x=some r:=by
 unfold zGL at h;split at h
 ·split at h
  ·rename_i e; subst e; exact ⟨_,rfl,h⟩
  ·cases h
 ·cases h
theorem zxu {d:D} {f:Tag→List D→Option R} {r:R} (h:asSl d f=some r):∃ t l,d=.sl t l∧f t l=some r:=by
 unfold asSl at h;split at h
 ·exact ⟨_,_,rfl,h⟩
 ·cases h
theorem zlV {d:D} {f:List D→Option R} {r:R} (h:zbn d f=some r):∃ l,d=.sl .own l∧f l=some r:=by
 unfold zbn at h;split at h
 ·exact ⟨_,rfl,h⟩
 ·cases h
theorem zm2 {d:D} {f:List D→Option R} {r:R} (h:zmE d f=some r):∃ l,d=.sl .lent l∧f l=some r:=by
 unfold zmE at h;split at h
 ·exact ⟨_,rfl,h⟩
 ·cases h
theorem ziR {d:D} {f:List D→Option R} {r:R} (h:asAgg d f=some r):∃ l,d=.agg l∧f l=some r:=by
 unfold asAgg at h;split at h
 ·exact ⟨_,rfl,h⟩
 ·cases h
theorem zxv {d:D} {f:D→Option R} {r:R} (h:asAt d f=some r):∃ l,d=.at_ l∧f l=some r:=by
 unfold asAt at h;split at h
 ·exact ⟨_,rfl,h⟩
 ·cases h
theorem zn5 {k:Nat} {d:D} {f:Nat→Option R} {r:R} (h:asH k d f=some r):∃ i,d=.h k i 0∧f i=some r:=by
 unfold asH at h;split at h
 ·split at h
  ·rename_i e; subst e; exact ⟨_,rfl,h⟩
  ·cases h
 ·cases h
theorem zub {d:D} {f:Bool→Option R} {r:R} (h:zpe d f=some r):(d=.nilp∧f true=some r)∨(((∃ k i o,d=.h k i o)∨∃ x,d=.at_ x)∧f false=some r):=by
 unfold zpe at h;split at h
 ·exact .inl ⟨rfl,h⟩
 ·exact .inr ⟨.inl ⟨_,_,_,rfl⟩,h⟩
 ·exact .inr ⟨.inr ⟨_,rfl⟩,h⟩
 ·cases h
theorem zyP {d:D} {f:Bool→Option R} {r:R} (h:zrE d f=some r):(d=.nilm∧f true=some r)∨((∃ t k es,d=.mp t k es)∧f false=some r):=by
 unfold zrE at h;split at h
 ·exact .inl ⟨rfl,h⟩
 ·exact .inr ⟨⟨_,_,_,rfl⟩,h⟩
 ·cases h
theorem zhp {kk:MK} {d:D} {f:List (Int×D)→Option R} {r:R} (h:ziQ kk d f=some r):∃ es,d=.mp .own kk es∧f es=some r:=by
 unfold ziQ at h;split at h
 ·split at h
  ·rename_i e; subst e; exact ⟨_,rfl,h⟩
  ·cases h
 ·cases h
theorem zpf {kk:MK} {d:D} {f:List (Int×D)→Option R} {r:R} (h:zrF kk d f=some r):∃ es,d=.mp .lent kk es∧f es=some r:=by
 unfold zrF at h;split at h
 ·split at h
  ·rename_i e; subst e; exact ⟨_,rfl,h⟩
  ·cases h
 ·cases h
theorem zuc {α:Type} {l:List α} {f:α→List α→Option R} {r:R} (h:zc1 l f=some r):∃ a l',l=a::l'∧f a l'=some r:=by
 unfold zc1 at h;split at h
 ·exact ⟨_,_,rfl,h⟩
 ·cases h
theorem zrG {α:Type} {l:List α} {x:Option R} {r:R} (h:nilK l x=some r):l=[]∧x=some r:=by
 unfold nilK at h;split at h
 ·exact ⟨rfl,h⟩
 ·cases h
theorem zpg {α:Type} {r:R}:∀ {n:Nat} {l:List α} {k:List α→Option R},zEC n l k=some r→l.length=n∧k l=some r
 | 0,l,k,h=>by
  obtain ⟨e,h⟩:=zrG h
  subst e; exact ⟨rfl,h⟩
 | n+1,l,k,h=>by
  obtain ⟨a,l',e,h⟩:=zuc h;subst e
  obtain ⟨e,h⟩:=zpg (k:=fun ay_=>k (a::ay_)) h
  exact ⟨by simp [e],h⟩
theorem ze4 {T:Tb} {f:Tb→Option R} {r:R} (h:letT T f=some r):f T=some r:=h
theorem zud {d:D} {f:List D→Option R} {r:R} (h:ze3 d f=some r):∃ l,d=.tup l∧f l=some r:=by
 unfold ze3 at h;split at h
 ·exact ⟨_,rfl,h⟩
 ·cases h
theorem Lf.getOne_some {l:Lf} {d:D} {f:l.T→Option R} {r:R} (h:l.getOne d f=some r):∃ x,d=l.one x∧f x=some r:=by
 cases l with
 | int k=>exact zAd h
 | bool=>exact zAe h
 | str=>exact zAf h
 | sl=>obtain ⟨t,l,e,h⟩:=zxu h; exact ⟨(t,l),e,h⟩
 | lent=>exact zm2 h
 | any=>exact ⟨d,rfl,h⟩
 | arr n=>
  obtain ⟨cs,e,h⟩:=ziR h
  exact ⟨cs,e,(zaT h).2⟩
 | hnd k=>exact zn5 h
 | map kk=>exact zpf h
 | mapo kk=>exact zhp h
theorem Lf.get_some {l:Lf} {cs:List D} {f:l.T→List D→Option R} {r:R} (h:l.get cs f=some r):∃ x rest,cs=l.mk x++rest∧f x rest=some r:=by
 cases l with
 | arr n=>
  obtain ⟨_,h⟩:=zaT h
  exact ⟨_,_,(List.take_append_drop n cs).symm,h⟩
 | int k=>
  cases cs with
  | nil=>cases h
  | cons d cs=>obtain ⟨n,e,h2⟩:=zAd (f:=fun x=>f x cs) h; subst e; exact ⟨n,cs,rfl,h2⟩
 | bool=>
  cases cs with
  | nil=>cases h
  | cons d cs=>obtain ⟨n,e,h⟩:=zAe h; subst e; exact ⟨n,cs,rfl,h⟩
 | str=>
  cases cs with
  | nil=>cases h
  | cons d cs=>obtain ⟨n,e,h⟩:=zAf h; subst e; exact ⟨n,cs,rfl,h⟩
 | sl=>
  cases cs with
  | nil=>cases h
  | cons d cs=>obtain ⟨t,l,e,h⟩:=zxu h; subst e; exact ⟨(t,l),cs,rfl,h⟩
 | lent=>
  cases cs with
  | nil=>cases h
  | cons d cs=>obtain ⟨l,e,h⟩:=zm2 h; subst e; exact ⟨l,cs,rfl,h⟩
 | any=>
  cases cs with
  | nil=>cases h
  | cons d cs=>exact ⟨d,cs,rfl,h⟩
 | hnd k=>
  cases cs with
  | nil=>cases h
  | cons d cs=>obtain ⟨i,e,h2⟩:=zn5 (f:=fun x=>f x cs) h; subst e; exact ⟨i,cs,rfl,h2⟩
 | map kk=>
  cases cs with
  | nil=>cases h
  | cons d cs=>obtain ⟨l,e,h2⟩:=zpf (f:=fun x=>f x cs) h; subst e; exact ⟨l,cs,rfl,h2⟩
 | mapo kk=>
  cases cs with
  | nil=>cases h
  | cons d cs=>obtain ⟨l,e,h2⟩:=zhp (f:=fun x=>f x cs) h; subst e; exact ⟨l,cs,rfl,h2⟩
theorem zmF:∀ {ls:List Lf} {cs:List D} {f:LfT ls→Option R} {r:R},zd6 ls cs f=some r→∃ x,cs=zho ls x∧f x=some r
 | [],[],f,r,h=>⟨(),rfl,h⟩
 | [],_::_,f,r,h=>by cases h
 | l::ls,cs,f,r,h=>by
  obtain ⟨x,rest,e,h⟩:=Lf.get_some h;obtain ⟨y,e2,h⟩:=zmF h
  exact ⟨(x,y),by rw [e,e2]; rfl,h⟩
theorem zeI {ls:List Lf} {cs:List D} {f:LfT ls→Option R} {r:R} (h:zaz ls cs f=some r):∃ x,cs=zho ls x∧f x=some r:=zmF h
theorem Sh.get_some {s:Sh} {d:D} {f:s.T→Option R} {r:R} (h:s.get d f=some r):∃ x,d=s.mk x∧f x=some r:=by
 cases s with
 | cell l=>exact Lf.getOne_some h
 | agg ls=>
  obtain ⟨cs,e,h⟩:=ziR h;obtain ⟨x,e2,h⟩:=zeI h
  exact ⟨x,by rw [e,e2]; rfl,h⟩
 | at1 l=>
  obtain ⟨y,e,h⟩:=zxv h;obtain ⟨x,e2,h⟩:=Lf.getOne_some h
  exact ⟨x,by rw [e,e2]; rfl,h⟩
 | atA ls=>
  obtain ⟨y,e,h⟩:=zxv h;obtain ⟨cs,e1,h⟩:=ziR h;obtain ⟨x,e2,h⟩:=zeI h
  exact ⟨x,by rw [e,e1,e2]; rfl,h⟩
 | fn1 g l=>
  obtain ⟨y,e,h⟩:=zBd h;obtain ⟨x,e2,h⟩:=Lf.getOne_some h
  exact ⟨x,by rw [e,e2]; rfl,h⟩
theorem zeq {P:Program} {t:TypeId} {d:D} {f:D→Option R} {r:R} (h:decT P t d f=some r):f d=some r:=by
 unfold decT at h;split at h
 ·obtain ⟨es,e,h⟩:=zhp h;rw [e]; exact h
 split at h
 ·obtain ⟨x,e,h⟩:=Sh.get_some h;rw [e]; exact h
 ·cases h
theorem zCC {P:Program} {own:Bool} {hint:Option Sh} {t:TypeId} {d:D} {f:D→Option R} {r:R} (h:decP P own hint t d f=some r):f d=some r:=by
 unfold decP at h;split at h
 ·obtain ⟨l,e,h⟩:=zlV h;rw [e]; exact h
 split at h
 ·obtain ⟨x,e,h⟩:=Sh.get_some h;rw [e]; exact h
 split at h
 ·obtain ⟨i,e,h⟩:=zn5 h;rw [e]; exact h
 split at h
 ·obtain ⟨es,e,h⟩:=zpf h;rw [e]; exact h
 split at h
 ·obtain ⟨l,e,h⟩:=zm2 h;rw [e]; exact h
 ·obtain ⟨x,e,h⟩:=Sh.get_some h;rw [e]; exact h
 ·cases h
theorem zph {P:Program} {pms:List (PM×Nat)} {hs:zvw}:∀ {i:Nat} {ts:List TypeId} {ds:List D} {f:List D→Option R} {r:R},zBc P pms hs i ts ds f=some r→f ds=some r
 | i,[],[],f,r,h=>h
 | i,[],d::ds,f,r,h=>by
  unfold zBc at h;split at h
  ·rename_i sh e;obtain ⟨x,e,h'⟩:=Sh.get_some h;rw [e]
   exact zph (f:=fun xs=>f (sh.mk x::xs)) h'
  ·cases h
 | _,_::_,[],f,r,h=>by cases h
 | i,t::ts,d::ds,f,r,h=>zph (f:=fun xs=>f (d::xs)) (zCC (f:=fun x=>zBc P pms hs (i+1) ts ds fun xs=>f (x::xs)) h)
end
end Wf

namespace Wf
open Go Go.RowKit
def cut {α:Type} (off len:Nat) (els:List α):List α:=if off=0 then (if len=els.length then els else els.take len) else (els.drop off).take len
def cutI {α:Type} (lo hi:Int) (l:List α):List α:=(l.drop lo.toNat).take (hi - lo).toNat
theorem zxw {α:Type} (off len:Nat) (els:List α):cut off len els=(els.drop off).take len:=by
 unfold cut;split
 ·rename_i h; subst h;split
  ·rename_i h; subst h; simp
  ·simp
 ·rfl
def zqE (sz:Nat) (l:List D):Bool:=l.all fun d=>(d.cell || d.isAgg) && decide (d.width=sz)
def spl (off n:Nat) (ds xs:List D):List D:=if off=0∧n=ds.length then xs else ds.take off++xs++ds.drop (off+n)
theorem zF3 {off n:Nat} {ds xs:List D} (h:xs.length=n):spl off n ds xs=ds.take off++xs++ds.drop (off+n):=by
 unfold spl;split
 ·rename_i e; obtain ⟨rfl,rfl⟩:=e; simp
 ·rfl
def zBe (n:Int) (z:D) (es:List (Int×D)):D:=(ziI n es).getD z
def hasD (n:Int) (es:List (Int×D)):Bool:=(ziI n es).isSome
def zgu (sz:Nat) (l:List D):Bool:=l.all fun d=>d.width == sz
def zim (l:List D):Bool:=l.all D.flat
def zdh (l:List D):Bool:=l.all D.flatEl
def cells (l:List D):Bool:=l.all D.cell
def zGM (l:List D):Bool:=l.all ztQ
def allE (es:List (Int×D)):Bool:=es.all fun p=>p.2.flatEl
def zkO:D→Bool
 | .tup _=>false
 | .sl .own _=>false
 | _=>true
section
variable {R:Type}
def dfl (out:Option Out) (k:Out→Option R):Option R:=match out with
 | some out=>k out
 | none=>none
def dflV (v:Option V) (k:V→Option R):Option R:=match v with
 | some v=>k v
 | none=>none
def zxx (ag:Bool) (size off:Nat) (cs:List D) (k:D→Option R):Option R:=
 if ag then sif (off+size≤cs.length) (k (.agg ((cs.drop off).take size))) else getK cs off k
def rowK (L:Loc) (q n i o:Nat) (k:List D→Option R):Option R:=match zl8 L q n with
 | some T=>getK T i fun cs=>getK cs o fun x=>zbn x k
 | none=>none
def zrH (L:Loc) (kk:MK) (q n i o:Nat) (k:List (Int×D)→Option R):Option R:=match zl8 L q n with
 | some T=>getK T i fun cs=>getK cs o fun x=>ziQ kk x k
 | none=>none
def elsK (L:Loc) (v:V) (k:List D→Option R):Option R:=match v with
 | .d (.sl _ l)=>k l
 | .ref g n off len=>match L.get g n with
  | .arr _ els _=>sif (off+len≤els.length) (k (cut off len els))
  | _=>none
 | .bref g n off len=>match L.get g n with
  | .box _ ds=>sif (off+len≤ds.length) (k (cut off len ds))
  | _=>none
 | .vref q n i o lo len=>rowK L q n i o fun l=>sif (lo+len≤l.length) (k (cut lo len l))
 | _=>none
def lenK (L:Loc) (v:V) (k:Nat→Option R):Option R:=match v with
 | .d (.sl _ l)=>k l.length
 | .ref g n off len=>match L.get g n with
  | .arr _ els _=>sif (off+len≤els.length) (k len)
  | _=>none
 | .bref g n off len=>match L.get g n with
  | .box _ ds=>sif (off+len≤ds.length) (k len)
  | _=>none
 | .vref q n i o lo len=>rowK L q n i o fun l=>sif (lo+len≤l.length) (k len)
 | _=>none
def esK (L:Loc) (kk:MK) (v:V) (k:List (Int×D)→Option R):Option R:=match v with
 | .d (.mp _ kk' es)=>if kk'=kk then k es else none
 | .map g n=>match L.get g n with
  | .map kk' es=>if kk'=kk then k es else none
  | _=>none
 | .vmap q n i o=>zrH L kk q n i o k
 | _=>none
def zrI (L:Loc) (v:V) (x:Option R):Option R:=match v with
 | .ref g n off len=>match L.get g n with
  | .arr _ els _=>sif (off+len≤els.length) x
  | .trow _ _=>x
  | _=>none
 | .bref g n off len=>lenK L (.bref g n off len) fun _=>x
 | .vref q n i o lo len=>lenK L (.vref q n i o lo len) fun _=>x
 | .vmap q n i o=>match zl8 L q n with
  | some T=>getK T i fun cs=>getK cs o fun d=>sif ((match d with | .mp .own _ _=>true | _=>false)=true) x
  | none=>none
 | v=>if zeF L v=true then x else none
def zyQ (L:Loc):List V→Option R→Option R
 | [],x=>x
 | v::r,x=>zrI L v (zyQ L r x)
def zue (L:Loc) (v:V) (x:Option R):Option R:=match v with
 | .ept g n i _=>match L.get g n with
  | .arr _ els _=>sif (i < els.length) x
  | _=>none
 | .vept q n i o j _=>rowK L q n i o fun els=>sif (j < els.length) x
 | v=>if zmU L v=true then x else none
def zyR (L:Loc) (v:V) (k:D→Wr→Option R):Option R:=match v with
 | .d x=>k x []
 | .p _ x=>k x []
 | .ref g n off len=>match L.get g n with
  | .arr sz els _=>if g < 90000 then sif (off+len≤els.length) (k (.sl .fresh (cut off len els)) [(g,(n,.arr sz els false))]) else none
  | _=>none
 | _=>none
def zCD (L:Loc):List V→(List D→Wr→Option R)→Option R
 | [],k=>k [] []
 | v::r,k=>zyR L v fun x w=>zCD L r fun xs ws=>k (x::xs) (w++ws)
def zGN (L:Loc) (v:V) (k:D→Wr→Option R):Option R:=match v with
 | .ptr g n off=>match off,L.get g n with
  | 0,.box true ds=>k (.at_ (.agg ds)) [(g,(n,.fbox true ds))]
  | 0,.box false [x]=>k (.at_ x) [(g,(n,.fbox false [x]))]
  | 0,.fbox true ds=>k (.at_ (.agg ds)) []
  | 0,.fbox false [x]=>k (.at_ x) []
  | 0,.vbox false [_] [0] [v]=>zyR L v fun x w=>k (.at_ x) (w++[(g,(n,.fbox false [x]))])
  | _,_=>none
 | v=>zyR L v k
def zAg (L:Loc):List V→(List D→Wr→Option R)→Option R
 | [],k=>k [] []
 | v::r,k=>zGN L v fun x w=>zAg L r fun xs ws=>k (x::xs) (w++ws)
def toDK (L:Loc) (v:V) (k:D→Wr→Option R):Option R:=match v with
 | .agg ds ks vs=>sif (okOv ds.length ks vs=true) (zCD L vs fun xs w=>k (.agg (setL ds ks xs)) w)
 | .clo f a b=>zAg L a fun xs w=>zAg L b fun ys w'=>k (.fn f xs ys) (w++w')
 | v=>zyR L v k
def zGO (L:Loc):List V→(List D→Wr→Option R)→Option R
 | [],k=>k [] []
 | v::r,k=>toDK L v fun x w=>zGO L r fun xs ws=>k (x::xs) (w++ws)
def zvy (z:Nat) (L:Loc) (v:V) (k:D→Wr→Option R):Option R:=match v with
 | .d (.sl .nil [])=>k (.sl .own []) []
 | .d (.sl .full [])=>k (.sl .own []) []
 | .d x=>sif (x.flat=true) (k x [])
 | .p _ x=>sif (x.flat=true) (k x [])
 | .ref g n off len=>match off,L.get g n with
  | 0,.arr sz els true=>if sz=z then sif (len=els.length) (sif (zdh els=true) (sif (zgu sz els=true) (k (.sl .own els) [(g,(n,.dead))]))) else none
  | 0,.trow sz els=>if sz=z then sif (len=els.length) (sif (zdh els=true) (sif (zgu sz els=true) (k (.sl .own els) [(g,(n,.dead))]))) else none
  | _,_=>none
 | .map g n=>match L.get g n with
  | .map kk es=>sif (allE es=true) (k (.mp .own kk es) [(g,(n,.dead))])
  | _=>none
 | _=>none
def zq3 (L:Loc):List Nat→List V→(List D→Wr→Option R)→Option R
 | z::zs,v::r,k=>zvy z L v fun x w=>zq3 L zs r fun xs ws=>k (x::xs) (w++ws)
 | [],[],k=>k [] []
 | _,_,_=>none
def zuf (nw:List Nat) (L:Loc) (v:V) (k:D→Option R):Option R:=match v with
 | .d x=>k x
 | .p _ x=>k x
 | .ref g n off len=>elsK L (.ref g n off len) fun l=>k (.sl .lent l)
 | .bref g n off len=>elsK L (.bref g n off len) fun l=>k (.sl .lent l)
 | .vref q n i o lo len=>if q∈nw then none else elsK L (.vref q n i o lo len) fun l=>k (.sl .lent l)
 | .map g n=>match L.get g n with
  | .map kk es=>k (.mp .lent kk es)
  | _=>none
 | _=>none
def zyS (nw:List Nat) (L:Loc):List V→(List D→Option R)→Option R
 | [],k=>k []
 | v::r,k=>zuf nw L v fun x=>zyS nw L r fun xs=>k (x::xs)
def zAh (nw:List Nat) (L:Loc) (v:V) (k:D→Option R):Option R:=match v with
 | .ptr g n off=>match off,L.get g n with
  | 0,.box true ds=>k (.at_ (.agg ds))
  | 0,.fbox true ds=>k (.at_ (.agg ds))
  | 0,.box false [x]=>k (.at_ x)
  | 0,.fbox false [x]=>k (.at_ x)
  | 0,.vbox false [_] [0] [v]=>zuf nw L v fun d=>k (.at_ d)
  | _,_=>none
 | v=>zuf nw L v k
def zrJ (nw:List Nat) (L:Loc):List V→(List D→Option R)→Option R
 | [],k=>k []
 | v::r,k=>zAh nw L v fun x=>zrJ nw L r fun xs=>k (x::xs)
def zED (nw:List Nat) (L:Loc) (v:V) (k:D→Option R):Option R:=match v with
 | .clo f a b=>zrJ nw L a fun a'=>zrJ nw L b fun b'=>k (.fn f a' b')
 | .agg ds ks vs=>sif (okOv ds.length ks vs=true) (zyS nw L vs fun xs=>k (.agg (setL ds ks xs)))
 | v=>zAh nw L v k
def zCE (nw:List Nat) (L:Loc):List V→(List D→Option R)→Option R
 | [],k=>k []
 | v::r,k=>zED nw L v fun x=>zCE nw L r fun xs=>k (x::xs)
def zIj (P:Program) (t:TypeId):Nat:=match P.underlying t with
 | some (.slice _)=>1
 | some (.map _ _)=>2
 | _=>0
def zCF (P:Program) (L:Loc) (t:TypeId) (q i off n:Nat) (ag fl:Bool) (k:V→Option R):Option R:=
 match za6 L q with
 | some (_,T)=>getK T i fun cs=>
  if ag then sif (off+n≤cs.length) (if fl then sif (zim ((cs.drop off).take n)=true) (decT P t (.agg ((cs.drop off).take n)) fun d=>k (.d d)) else k (.d (.agg (((cs.drop off).take n).map D.hide))))
  else getK cs off fun x=>match zIj P t with
   | 1=>zbn x fun l=>k (.vref q (L (tb q)).1 i off 0 l.length)
   | 2=>match zl9 P t with
    | some (kk,_)=>ziQ kk x fun _=>k (.vmap q (L (tb q)).1 i off)
    | none=>none
   | _=>decT P t x fun d=>sif (d.flat=true) (k (.d d))
 | none=>none
def zyT (P:Program) (t:TypeId) (ag:Bool) (n off:Nat) (ds:List D) (ks:List Nat) (vs:List V) (k:V→Option R):Option R:=
 if ag then sif (off+n≤ds.length) (k (V.mk ((ds.drop off).take n) (ovIn off n ks vs)))
 else sif (off < ds.length) (match zdr ks vs off with
  | some v=>k v
  | none=>getK ds off fun d=>decT P t d fun d=>k (.d d))
def eltK (P:Program) (t:TypeId) (ag:Bool) (sz n off:Nat) (x:D) (k:V→Option R):Option R:=
 if off=0∧sz=n then decT P t x fun d=>sif (d.isAgg=ag) (sif (d.width=n) (sif (d.cell= !ag) (k (.d d))))
 else asAgg x fun cs=>zxx ag n off cs fun x=>decT P t x fun d=>k (.d d)
def zEE (P:Program) (L:Loc) (t:TypeId) (p:V) (k:V→Option R):Option R:=
 match zkE P t,zb9 P t with
 | some ag,some n=>
  match p with
  | .d (.at_ x)=>decT P t x fun d=>sif (d.isAgg=ag) (sif (d.width=n) (sif (d.cell= !ag) (k (.d d))))
  | .d (.h q i off)=>zCF P L t q i off n ag (ztN P 8 t) k
  | .ptr g l off=>match L.get g l with
   | .box _ ds=>zxx ag n off ds fun x=>decT P t x fun d=>k (.d d)
   | .fbox _ ds=>zxx ag n off ds fun x=>decT P t x fun d=>k (.d d)
   | .vbox _ ds ks vs=>zyT P t ag n off ds ks vs k
   | _=>none
  | .ept g l i off=>match L.get g l with
   | .arr sz els _=>getK els i fun x=>eltK P t ag sz n off x k
   | _=>none
  | .vept q l i o j off=>rowK L q l i o fun els=>getK els j fun x=>eltK P t ag (zcS q o) n off x k
  | _=>none
 | _,_=>none
def zrK (ag:Bool) (n sz off:Nat) (e v:D) (k:D→Option R):Option R:=match v with
 | .agg xs=>sif (ag=true) (sif (xs.length=n) (sif (off=0) (sif (n=sz) (k (.agg xs)))))
 | x=>sif (ag=false) (sif (n=1) (sif (x.cell=true) (if sz=1 then sif (e.isAgg=false) (sif (off=0) (k x)) else asAgg e fun cs=>sif (off < cs.length) (k (.agg (cs.set off x))))))
def zyU (P:Program) (L:Loc) (q i off n:Nat) (ag fl:Bool) (v:V) (k:Out→Option R):Option R:=
 match za6 L q with
 | some (true,T)=>getK T i fun cs=>sif (off+n≤cs.length)
  (if fl then (match v with
   | .d (.agg xs)=>sif (ag=true) (sif (xs.length=n) (sif (zim xs=true) (sif (zim ((cs.drop off).take n)=true) (letT (za7 T i off xs) fun T'=>
     k { v:=.d (.tup []),wr:=[(tb q,((L (tb q)).1,.tbl true T'))] }))))
   | .d x=>sif (ag=false) (sif (n=1) (sif (x.flat=true) (sif (zim ((cs.drop off).take n)=true) (letT (za7 T i off [x]) fun T'=>
     k { v:=.d (.tup []),wr:=[(tb q,((L (tb q)).1,.tbl true T'))] }))))
   | _=>none)
  else if ag then (match v with
   | .d (.agg ds)=>sif (ds.length=n) (sif (ds.all D.own0ok=true) (letT (za7 T i off (ds.map D.own0)) fun T'=>k { v:=.d (.tup []),wr:=[(tb q,(L.new (tb q),.tbl true T'))] }))
   | .agg ds ks vs=>zq3 L (ks.map fun z=>zcS q (off+z)) vs fun xs w=>sif (ds.length=n) (sif (zBW ks ds=true) (sif ((w.map (·.1)).Nodup) (sif (okOv ds.length ks vs=true) (letT (za7 T i off (setL (ds.map D.own0) ks xs)) fun T'=>
     k { v:=.d (.tup []),wr:=w++[(tb q,(L.new (tb q),.tbl true T'))] }))))
   | _=>none)
  else zvy (zcS q off) L v fun x w=>if n=1 then letT (za7 T i off [x]) fun T'=>k { v:=.d (.tup []),wr:=w++[(tb q,(L.new (tb q),.tbl true T'))] } else none)
 | _=>none
def zCG (P:Program) (L:Loc) (t:TypeId) (p v:V) (k:Out→Option R):Option R:=
 match zkE P t,zb9 P t with
 | some ag,some n=>
  match p with
  | .ptr g l off=>match L.get g l with
   | .box a ds=>match v with
    | .d (.agg xs)=>sif (ag=true) (sif (xs.length=n) (sif (off+n≤ds.length) (k { v:=.d (.tup []),wr:=[(g,(l,.box a (spl off n ds xs)))] })))
    | .agg xs ks vs=>sif (ag=true) (sif (xs.length=n) (sif (off+n≤ds.length) (sif (okOv n ks vs=true) (k { v:=.d (.tup []),wr:=[(g,(l,zrg a (ds.take off++xs++ds.drop (off+n)) (ks.map (· +off),vs)))] }))))
    | .d x=>sif (ag=false) (sif (n=1) (sif (x.cell=true) (sif (off < ds.length) (k { v:=.d (.tup []),wr:=[(g,(l,.box a (ds.set off x)))] }))))
    | v=>sif (v.one=true) (sif (ag=false) (sif (n=1) (sif (off < ds.length) (k { v:=.d (.tup []),wr:=[(g,(l,.vbox a ds [off] [v]))] }))))
   | .vbox a ds ks vs=>match v with
    | .d (.agg xs)=>sif (ag=true) (sif (xs.length=n) (sif (off+n≤ds.length) (k { v:=.d (.tup []),wr:=[(g,(l,zrg a (ds.take off++xs++ds.drop (off+n)) (zdW off n ks vs)))] })))
    | .agg xs ks' vs'=>sif (ag=true) (sif (xs.length=n) (sif (off+n≤ds.length) (sif (okOv n ks' vs'=true) (k { v:=.d (.tup []),wr:=[(g,(l,zrg a (ds.take off++xs++ds.drop (off+n)) (ks'.map (· +off)++(zdW off n ks vs).1,vs'++(zdW off n ks vs).2)))] }))))
    | .d x=>sif (ag=false) (sif (n=1) (sif (x.cell=true) (sif (off < ds.length) (k { v:=.d (.tup []),wr:=[(g,(l,zrg a (ds.set off x) (zdW off 1 ks vs)))] }))))
    | v=>sif (v.one=true) (sif (ag=false) (sif (n=1) (sif (off < ds.length) (k { v:=.d (.tup []),wr:=[(g,(l,.vbox a ds (off::(zdW off 1 ks vs).1) (v::(zdW off 1 ks vs).2)))] }))))
   | _=>none
  | .ept g l i off=>match L.get g l with
   | .arr sz els true=>getK els i fun e=>match v with
    | .d x=>zrK ag n sz off e x fun y=>k { v:=.d (.tup []),wr:=[(g,(l,.arr sz (els.set i y) true))] }
    | v=>toDK L v fun x w=>if g∈w.map (·.1) then none else zrK ag n sz off e x fun y=>k { v:=.d (.tup []),wr:=w++[(g,(l,.arr sz (els.set i y) true))] }
   | _=>none
  | .vept q l i o j off=>match v,za6 L q with
   | .d x,some (true,T)=>rowK L q l i o fun els=>getK els j fun e=>zrK ag n (zcS q o) off e x fun y=>sif (y.flatEl=true) (letT (setT T i o (.sl .own (els.set j y))) fun T'=>
     k { v:=.d (.tup []),wr:=[(tb q,(l,.tbl true T'))] })
   | _,_=>none
  | .d (.h q i off)=>zyU P L q i off n ag (ztN P 8 t) v k
  | _=>none
 | _,_=>none
def zyV (P:Program) (L:Loc) (t:Nat) (ty:TypeId) (s x:V) (k:Out→Option R):Option R:=
 elsK L x fun xs=>match zcK P ty 0 with
  | none=>none
  | some sz=>match s with
   | .d (.sl .full [])=>sif (xs.length≤2 ^ 32) (sif (zec sz xs=true) (k { v:=.ref t (L.new t) 0 xs.length,wr:=[(t,(L.new t,.arr sz xs true))] }))
   | .d (.sl .nil [])=>sif (xs.length≤2 ^ 32) (sif (zec sz xs=true) (k { v:=.ref t (L.new t) 0 xs.length,wr:=[(t,(L.new t,.arr sz xs true))] }))
   | .d (.sl .full (y::l))=>sif (xs≠[]) (sif ((y::l).length+xs.length≤2 ^ 32) (sif (zec sz xs=true) (sif (zec sz (y::l)=true)
     (k { v:=.ref t (L.new t) 0 ((y::l).length+xs.length),wr:=[(t,(L.new t,.arr sz (y::l++xs) true))] }))))
   | .ref g n off len=>match off,L.get g n with
    | 0,.arr sz' els true=>if g < 90000 then sif (len+xs.length≤2 ^ 32) (sif (zec sz xs=true) (sif (len=els.length) (sif (sz'=sz)
      (k { v:=.ref t (L.new t) 0 (len+xs.length),wr:=[(g,(n,.dead)),(t,(L.new t,.arr sz (els++xs) true))] })))) else none
    | _,_=>none
   | .vref q n i o lo len=>match lo,za6 L q with
    | 0,some (true,T)=>rowK L q n i o fun els=>sif (len+xs.length≤2 ^ 32) (sif (zec sz xs=true) (sif (sz=zcS q o) (sif (len=els.length) (letT (setT T i o .undef) fun T'=>
      k { v:=.ref t (L.new t) 0 (len+xs.length),wr:=[(tb q,(n,.tbl true T')),(t,(L.new t,.trow sz (els++xs)))] }))))
    | _,_=>none
   | _=>none
def zvz (P:Program) (L:Loc) (t:Nat) (ty:TypeId) (s:V) (m:Int) (k:Out→Option R):Option R:=
 match s with
 | .ref g n off len=>match off,L.get g n with
  | 0,.arr sz' els true=>match zcK P ty 0,P.underlying ty with
   | some sz,some (.slice e)=>match zgN P e with
    | some z=>if g < 90000 then sif (0≤m) (sif (len+m.toNat≤2 ^ 32) (sif (len=els.length) (sif (sz'=sz)
      (k { v:=.ref t (L.new t) 0 (len+m.toNat),wr:=[(g,(n,.dead)),(t,(L.new t,.arr sz (els++List.replicate m.toNat z) true))] })))) else none
    | none=>none
   | _,_=>none
  | _,_=>none
 | _=>none
def srcK (P:Program) (L:Loc) (ty2:TypeId) (x:V) (k:List D→Option R):Option R:=
 match zmS P ty2,x with
 | true,.d (.str s)=>k (ztP s)
 | true,_=>none
 | false,x=>elsK L x k
def zGP (P:Program) (L:Loc) (ty ty2:TypeId) (s x:V) (k:Out→Option R):Option R:=
 match s,zcw P ty with
 | .ref g n off len,some ez=>match L.get g n with
  | .arr sz els true=>srcK P L ty2 x fun xs=>sif (off+len≤els.length) (sif (sz=1) (sif (ez=1) (sif (cells xs=true)
    (k { v:=.d (.int .i64 ((min xs.length len:Nat):Int)),wr:=[(g,(n,.arr sz (els.take off++xs.take len++els.drop (off+(xs.take len).length)) true))] }))))
  | _=>none
 | .bref g n off len,some ez=>match L.get g n with
  | .box a ds=>srcK P L ty2 x fun xs=>sif (off+len≤ds.length) (sif (ez=1) (sif (cells xs=true) (sif (xs.length=len)
    (k { v:=.d (.int .i64 (len:Int)),wr:=[(g,(n,.box a (ds.take off++(xs++ds.drop (off+len)))))] }))))
  | _=>none
 | _,_=>none
def zCH (P:Program) (L:Loc) (t:TypeId) (x:V) (lo hi mx:Option V) (k:V→Option R):Option R:=
 match optD lo,optD hi,optD mx with
 | some lo,some hi,some mx=>
  match x with
  | .d (.sl tg l)=>
   let h:=hi.getD l.length;let a:=lo.getD 0;let m:=mx.getD h
   match zcw P t with
   | some sz=>sif (0≤a) (sif (a≤h) (sif (h≤l.length) (sif (m=h) (sif ((mx.isNone || hi.isSome)=true) (sif (zqE sz l=true)
    (k (.d (.sl (zdP tg mx.isSome (decide (h=l.length))) (cutI a h l)))))))))
   | none=>none
  | .d (.str s)=>
   let h:=hi.getD s.size;let a:=lo.getD 0
   sif (zmS P t=true) (sif (mx=none) (sif (0≤a) (sif (a≤h) (sif (h≤s.size) (k (.d (.str (s.extract a.toNat h.toNat))))))))
  | .ref g n off len=>
   let h:=hi.getD len;let a:=lo.getD 0
   match zcw P t,L.get g n with
   | some sz,.arr sz' _ _=>if sz=sz' then (match mx with
    | none=>sif (0≤a) (sif (a≤h) (sif (h≤len) (k (.ref g n (off+a.toNat) (h - a).toNat))))
    | some m=>sif (hi.isSome=true) (sif (m=h) (sif (a=h) (sif (0≤a) (sif (h≤len) (k (.d (.sl .full []))))))))
    else none
   | _,_=>none
  | .bref g n off len=>
   let h:=hi.getD len;let a:=lo.getD 0
   match zcw P t,L.get g n,mx with
   | some sz,.box _ ds,some m=>if sz=1 then sif (off+len≤ds.length) (sif (hi.isSome=true) (sif (m=h) (sif (a=h) (sif (0≤a) (sif (h≤len) (k (.d (.sl .full [])))))))) else none
   | _,_,_=>none
  | .vref q n i o off len=>
   let h:=hi.getD len;let a:=lo.getD 0
   match zcw P t with
   | some sz=>if sz=zcS q o then rowK L q n i o fun l=>sif (off+len≤l.length) (match mx with
    | none=>sif (0≤a) (sif (a≤h) (sif (h≤len) (k (.vref q n i o (off+a.toNat) (h - a).toNat))))
    | some m=>sif (hi.isSome=true) (sif (m=h) (sif (a=h) (sif (0≤a) (sif (h≤len) (k (.d (.sl .full []))))))))
    else none
   | none=>none
  | .ptr g n off=>match zhV P t,L.get g n with
   | some (q,sz,_),.box _ ds=>
    let h:=hi.getD q;let a:=lo.getD 0
    sif (off+q≤ds.length) (sif (sz=1) (sif (mx=none) (sif (0≤a) (sif (a≤h) (sif (h≤q) (sif ((a=0∨a < q)) (k (.bref g n (off+a.toNat) (h - a).toNat))))))))
   | _,_=>none
  | _=>none
 | _,_,_=>none
def zGQ (P:Program) (t:TypeId):Option TypeId:=
 match P.underlying t with
 | some (.slice e)=>some e
 | _=>none
def zpi (P:Program) (L:Loc) (t:TypeId) (x i:V) (k:V→Option R):Option R:=
 match i with
 | .d (.int _ i)=>
  match x with
  | .d (.sl _ l)=>match zcw P t,zGQ P t with
   | some sz,some e=>sif (0≤i) (getK l i.toNat fun d=>decT P e d fun d=>sif (d.width=sz) (sif ((d.cell || d.isAgg)=true) (k (.d (.at_ d)))))
   | _,_=>none
  | .ref g l off n=>match zcw P t,L.get g l with
   | some sz,.arr sz' _ _=>if sz'=sz then sif (0≤i) (sif (i.toNat < n) (k (.ept g l (off+i.toNat) 0))) else none
   | _,_=>none
  | .vref q l z o off n=>match zcw P t with
   | some sz=>if sz=zcS q o then rowK L q l z o fun _=>sif (0≤i) (sif (i.toNat < n) (k (.vept q l z o (off+i.toNat) 0))) else none
   | none=>none
  | .bref g l off n=>match zcw P t with
   | some sz=>sif (sz=1) (sif (0≤i) (sif (i.toNat < n) (k (.ptr g l (off+i.toNat)))))
   | none=>none
  | .ptr g l off=>match zhV P t with
   | some (n,sz,_)=>sif (0≤i) (sif (i.toNat < n) (k (.ptr g l (off+i.toNat*sz))))
   | none=>none
  | .d (.at_ (.agg cs))=>match zhV P t with
   | some (n,sz,ag)=>sif (0≤i) (sif (i.toNat < n) (zxx ag sz (i.toNat*sz) cs fun d=>k (.d (.at_ d))))
   | none=>none
  | .d (.h q j off)=>match zhV P t with
   | some (n,sz,_)=>sif (0≤i) (sif (i.toNat < n) (k (.d (.h q j (off+i.toNat*sz)))))
   | none=>none
  | .ept g l q off=>match zhV P t with
   | some (n,sz,_)=>sif (0≤i) (sif (i.toNat < n) (k (.ept g l q (off+i.toNat*sz))))
   | none=>none
  | .vept q l z o j off=>match zhV P t with
   | some (n,sz,_)=>sif (0≤i) (sif (i.toNat < n) (k (.vept q l z o j (off+i.toNat*sz))))
   | none=>none
  | _=>none
 | _=>none
def letD (d:D) (k:D→Option R):Option R:=match d with
 | .int q n=>letN n fun n=>k (.int q n)
 | d=>k d
def binK (bt:Bool) (op:BinOp) (a b:D) (k:D→Option R):Option R:=
 match op,a,b with
 | .quo,.int q x,.int q' y | .rem,.int q x,.int q' y=>if q=q' then sif (y≠0) (match op with
   | .quo=>letN (q.wrap (x.tdiv y)) fun n=>k (.int q n)
   | _=>letN (x.tmod y) fun n=>k (.int q n)) else none
 | .shl,.int q x,.int _ y=>sif (0≤y) (letN (q.wrap (x*2 ^ min y.toNat q.bits)) fun n=>k (.int q n))
 | .shr,.int q x,.int _ y=>sif (0≤y) (letN (x.fdiv (2 ^ min y.toNat q.bits)) fun n=>k (.int q n))
 | op,a,b=>match abin bt op a b with
  | some d=>letD d k
  | none=>none
def zCI (L:Loc) (v:V) (k:Out→Option R):Option R:=
 match v with
 | .ref g n off len=>match L.get g n with
  | .arr _ _ true=>sif (0 < len) (k { v:=.ref g n off len })
  | _=>none
 | _=>none
def zEF (L:Loc) (q:Nat) (a:V) (k:Bool→Option R):Option R:=
 match q,a with
 | 0,.d x=>zpe x k
 | 0,.p _ x=>zpe x k
 | 1,.d x=>zrE x k
 | 3,.d (.sl t l)=>brK l.isEmpty (if t=.nn then k false else if t=.nul then k true else sif (t=.nil) (k true)) (k false)
 | 3,.ref g n off len=>zrI L (.ref g n off len) (sif (0 < len) (k false))
 | 3,.vref z n i o lo len=>zrI L (.vref z n i o lo len) (sif (0 < len) (k false))
 | q,a=>match zqD L q a with
  | some b=>k b
  | none=>none
def zGR (d:D) (k:V→Wr→Option R):Option R:=sif (zkO d=true) (k (.d d) [])
def zvA (P:Program) (L:Loc) (id sz:Nat) (t:TypeId) (d:D) (k:V→Wr→Option R):Option R:=
 if sz=0 then decT P t d fun d=>zGR d k
 else zbn d fun els=>k (.ref id (L.new id) 0 els.length) [(id,(L.new id,.arr sz els true))]
def zvB (P:Program) (L:Loc) (t:Nat):Nat→List Nat→List TypeId→List D→(List V→Wr→Option R)→Option R
 | j,sz::szs,ty::tys,d::ds,k=>zvA P L (t+1000*(j+1)) sz ty d fun v w=>zvB P L t (j+1) szs tys ds fun vs ws=>k (v::vs) (w++ws)
 | _,[],[],[],k=>k [] []
 | _,_,_,_,_=>none
def tupN (n:Nat) (l:List D) (k:List D→Option R):Option R:=zaz (List.replicate n .any) l fun x=>k (zho _ x)
def zAi (P:Program) (L:Loc) (t:Nat) (szs:List Nat) (ty:TypeId) (r:D) (k:V→Wr→Option R):Option R:=
 match szs with
 | [sz]=>zvA P L t sz ty r k
 | []=>ze3 r fun ds=>nilK ds (k (.tup []) [])
 | _=>match P.underlying ty with
  | some (.tuple tys)=>ze3 r fun ds=>tupN tys.size ds fun ds=>if szs.length=ds.length∧ds.length≤4 then zvB P L t 0 szs tys.toList ds fun vs w=>k (.tup vs) w else none
  | _=>none
def zCJ (nw:List Nat) (L:Loc) (pm:PM×Nat) (v:V) (k:D→List (Nat×Nat×Nat×Nat)→Wr→Option R):Option R:=
 match pm with
 | (.lent,_)=>zED nw L v fun d=>k d [] []
 | (.own,sz)=>match v with
  | .ref g n off len=>match off,L.get g n with
   | 0,.arr sz' els true=>if sz'=sz∧g < 90000 then sif (len=els.length) (sif (zdh els=true) (k (.sl .own els) [] [(g,(n,.dead))])) else none
   | _,_=>none
  | .d (.sl .nil [])=>k (.sl .own []) [] []
  | .d (.sl .full [])=>k (.sl .own []) [] []
  | _=>none
 | (.mut,sz)=>match v with
  | .ref g n off len=>match off,L.get g n with
   | 0,.arr sz' els true=>if sz'=sz∧g < 90000 then sif (len=els.length) (sif (zdh els=true) (k (.sl .own els) [(g,n,sz,len)] [])) else none
   | _,_=>none
  | _=>none
def zCK (nw:List Nat) (L:Loc):List (PM×Nat)→List V→(List D→List (Nat×Nat×Nat×Nat)→Wr→Option R)→Option R
 | _,[],k=>k [] [] []
 | pms,v::vs,k=>zCJ nw L (pms.headD (.lent,0)) v fun d m w=>zCK nw L pms.tail vs fun ds ms ws=>k (d::ds) (m++ms) (w++ws)
def zGS:List (Nat×Nat×Nat×Nat)→List (List D)→(Wr→Option R)→Option R
 | [],os,k=>nilK os (k [])
 | (g,n,sz,len)::ms,os,k=>zc1 os fun els os=>sif (els.length=len) (zGS ms os fun w=>k ((g,(n,.arr sz els true))::w))
def zGT (P:Program) (Γ:Env) (L:Loc) (t:Nat) (ty:TypeId) (f:V) (args:List V) (k:Out→Option R):Option R:=
 match zmT f with
 | some (q,a,b)=>match Γ q with
  | some (.pure szs F)=>zCE [] L (a++args++b) fun ds=>zar (F ds) fun r=>zAi P L t szs ty r fun v w=>k { v:=v,wr:=w }
  | some (.st pms szs ks F)=>zCK (ksW ks) L pms (a++args++b) fun ds ms kl=>match zj7 L ks with
   | some Ts=>if zmD L pms [] (a++args++b)=true∧(ks.map (·.1)).Nodup then zar (F ds Ts) fun x=>zGS ms x.outs fun wo=>zEC (ksW ks).length x.tbs fun tbs=>
     zAi P L t szs ty x.r fun v w=>k { v:=v,wr:=kl++wo++zh2 L (ksW ks) tbs++w } else none
   | none=>none
  | none=>none
 | none=>none
def zCL (P:Program) (s f:Nat) (x:V) (k:V→Option R):Option R:=
 match x,zs8 P s f,zjp P s f with
 | .d (.agg cs),some (off,size),some ag=>zxx ag size off cs fun d=>k (.d d)
 | .agg ds ks vs,some (off,size),some ag=>if ag then sif (off+size≤ds.length) (k (V.mk ((ds.drop off).take size) (ovIn off size ks vs)))
   else sif (off < ds.length) (match zdr ks vs off with
    | some v=>k v
    | none=>getK ds off fun d=>k (.d d))
 | _,_,_=>none
def unpK (a v:V) (k:V→Option R):Option R:=match a,v with
 | .vept _ _ _ _ _ _,.p q d=>asH q d fun i=>k (.d (.h q i 0))
 | _,v=>k v.unp
def zGU (P:Program) (Γ:Env) (o:Oper) (ρ:Operand→V) (L:Loc) (k:Out→Option R):Option R:=
 let t:=o.dst.getD 0
 match o.op with
 | .pick c a b=>match ρ c with
  | .d (.bool b')=>br b' fun b'=>k { v:=if b' then ρ a else ρ b }
  | _=>none
 | .build ty ps=>match ((ps.toList.map fun (i,x)=>(i,(ρ x).unp)).map (·.2)).mapM V.dat with
  | some _=>dfl (aop0 P Γ o ρ L) k
  | none=>zyQ L ((ps.toList.map fun (i,x)=>(i,(ρ x).unp)).map (·.2)) (match zgN P ty,zu4 P ty with
   | some (.agg zs),some pl=>match layV pl (zs,[],[]) (ps.toList.map fun (i,x)=>(i,(ρ x).unp)) with
    | some x=>k { v:=V.mk x.1 x.2 }
    | none=>none
   | _,_=>none)
 | .buildSlice ty n ps=>zGO L ((ps.toList.map fun (i,x)=>(i,ρ x)).map (·.2)) fun ds w=>match zcK P ty n with
  | some sz=>sif ((ps.toList.map fun (i,x)=>(i,ρ x)).map (·.1)=List.range n) (sif (n*sz≤2 ^ 24) (sif (zec sz ds=true) (k (zzR (zhf P ty && decide (0 < n)) L t n sz ds w))))
  | none=>none
 | .box _ x=>match (ρ x).unp with
  | .d _=>dfl (aop0 P Γ o ρ L) k
  | .agg _ _ _=>dfl (aop0 P Γ o ρ L) k
  | v=>if v.one=true then zrI L v (k { v:=.ptr t (L.new t) 0,wr:=[(t,(L.new t,.vbox false [.undef] [0] [v]))] }) else none
 | .load ty a=>zEE P L ty (ρ a) fun v=>k { v }
 | .store ty a x=>zrI L (ρ x) (unpK (ρ a) (ρ x) fun v=>zCG P L ty (ρ a) v k)
 | .binOp op ty x y _=>match ρ x,ρ y with
  | .d (.agg _),.d (.agg _)=>dfl (aop0 P Γ o ρ L) k
  | a,b=>match zmV P ty with
   | some q=>if znQ q b=true then (match op with
    | .eql=>zEF L q a fun r=>k { v:=.d (.bool r) }
    | .neq=>zEF L q a fun r=>k { v:=.d (.bool !r) }
    | _=>none) else none
   | none=>match a,b with
    | .d a,.d b=>binK (zrf P ty) op a b fun d=>k { v:=.d d }
    | _,_=>none
 | .convert src dst x=>match ρ x with
  | .d (.int _ n)=>match zs9 P src,zs9 P dst with
   | some _,some q=>letN (q.wrap n) fun n=>k { v:=.d (.int q n) }
   | _,_=>none
  | v=>if zhf P src=true∧zmS P dst=true then elsK L v fun l=>sif (zGM l=true) (k { v:=.d (.str (baOf l)) }) else if src=dst∧zhf P src=true then zCI L v k else none
 | .makeSlice ty n c=>match P.underlying ty,ρ n,ρ c with
  | some (.slice e),.d (.int .i64 n),.d (.int .i64 c)=>match zgN P e,zb9 P e,P.info? e with
   | some z,some sz,some i=>sif (0≤n) (sif (n=c) (sif (n*i.bytes≤2 ^ 47) (sif (n≤2 ^ 47) (sif (z.width=sz) (sif (0 < sz)
     (k { v:=.ref t (L.new t) 0 n.toNat,wr:=[(t,(L.new t,.arr sz (List.replicate n.toNat z) true))] }))))))
   | _,_,_=>none
  | _,_,_=>none
 | .slice ty x lo hi mx=>zCH P L ty (ρ x) (lo.map ρ) (hi.map ρ) (mx.map ρ) fun v=>k { v }
 | .fieldAddr s x f=>zue L (ρ x) (dflV (zlM P s (ρ x) f) fun v=>k { v })
 | .field s x f=>zCL P s f (ρ x) fun v=>k { v }
 | .indexAddr ty x i=>zue L (ρ x) (zpi P L ty (ρ x) (ρ i) fun v=>k { v })
 | .index ty x i=>match ρ x,ρ i with
  | .d (.agg cs),.d (.int _ n)=>match zhV P ty with
   | some (q,sz,ag)=>sif (0≤n) (sif (n < q) (zxx ag sz (n.toNat*sz) cs fun d=>k { v:=.d d }))
   | none=>none
  | _,_=>none
 | .lookup ty m x ok=>match zl9 P ty with
  | some (kk,et)=>match zgN P et,zwR kk (ρ x) with
   | some z,some n=>esK L kk (ρ m) fun es=>decT P et (zBe n z es) fun d=>k { v:=if ok then .d (.tup [d,.bool (hasD n es)]) else .d d }
   | _,_=>none
  | none=>none
 | .mapUpdate ty m kx v | .insert ty m kx v=>match zl9 P ty with
  | some (kk,_)=>match ρ m,zwR kk (ρ kx) with
   | .map g l,some n=>match L.get g l with
    | .map kk' es=>if kk'=kk then toDK L (ρ v).unp fun x w=>if g∈w.map (·.1) then none else k { v:=.d (.tup []),wr:=w++[(g,(l,.map kk (setD n x es)))] } else none
    | _=>none
   | .vmap q l i o,some n=>match (ρ v).unp,za6 L q with
    | .d x,some (true,T)=>zrH L kk q l i o fun es=>sif (x.flatEl=true) (letT (setT T i o (.mp .own kk (setD n x es))) fun T'=>k { v:=.d (.tup []),wr:=[(tb q,(l,.tbl true T'))] })
    | _,_=>none
   | _,_=>none
  | none=>none
 | .nilCheck x=>match ρ x with
  | .p q x=>asH q x fun i=>k { v:=.d (.h q i 0) }
  | .ept g n i j=>zue L (.ept g n i j) (k { v:=.ept g n i j })
  | .vept z n i o j f=>zue L (.vept z n i o j f) (k { v:=.vept z n i o j f })
  | _=>dfl (aop0 P Γ o ρ L) k
 | .call { callee:=.builtin .len,args,argTypes }=>match args.toList,argTypes.toList with
  | [x],[ty]=>match zl9 P ty with
   | some (kk,_)=>esK L kk (ρ x) fun es=>k { v:=.d (.int .i64 es.length) }
   | none=>match ρ x with
    | .d (.str s)=>if zmS P ty=true then k { v:=.d (.int .i64 s.size) } else none
    | v=>if (zcw P ty).isSome=true then lenK L v fun n=>k { v:=.d (.int .i64 n) } else none
  | _,_=>none
 | .call { callee:=.builtin .min,args,.. }=>match args.toList.map ρ with
  | [.d (.int .i64 a),.d (.int .i64 b)]=>letN (min a b) fun n=>k { v:=.d (.int .i64 n) }
  | _=>none
 | .call { callee:=.builtin .max,args,.. }=>match args.toList.map ρ with
  | [.d (.int .i64 a),.d (.int .i64 b)]=>letN (max a b) fun n=>k { v:=.d (.int .i64 n) }
  | _=>none
 | .call { callee:=.builtin .append,args,argTypes }=>match args.toList,argTypes.toList with
  | [s,x],[ty,ty2]=>if (zcw P ty2).isSome then zyV P L t ty (ρ s) (ρ x) k else if (zs9 P ty2).isSome=true then (match ρ x with
   | .d (.int .i64 m)=>zvz P L t ty (ρ s) m k
   | _=>none) else none
  | _,_=>none
 | .call { callee:=.builtin .copy,args,argTypes }=>match args.toList,argTypes.toList with
  | [s,x],[ty,ty2]=>zGP P L ty ty2 (ρ s) (ρ x) k
  | _,_=>none
 | .call { callee:=.value f,args,.. }=>zGT P Γ L t o.type (ρ f) (args.toList.map ρ) k
 | .sliceToArrayPointer arr x=>match ρ x with
  | .d (.sl _ l)=>match P.underlying arr with
   | some (.array n e)=>sif (0 < n) (sif (l.length=n) (sif (zb9 P e=some 1) (sif (cells l=true) (k { v:=.d (.at_ (.agg l)) }))))
   | _=>none
  | _=>none
 | _=>dfl (aop0 P Γ o ρ L) k
def aopK (P:Program) (Γ:Env) (o:Oper) (ρ:Operand→V) (L:Loc) (k:Out→Option R):Option R:=zGU P Γ o ρ L fun out=>k { out with v:=toP P o.type out.v }
end
end Wf

namespace Wf
open Go Go.RowKit
set_option linter.unusedVariables false
set_option linter.unusedSimpArgs false
section
variable {R:Type} {r:R}
theorem zlW {o:Option Out} {k:Out→Option R} (h:dfl o k=some r):∃ out,o=some out∧k out=some r:=by
 unfold dfl at h;split at h
 ·exact ⟨_,rfl,h⟩
 ·cases h
theorem zCM {o:Option V} {k:V→Option R} (h:dflV o k=some r):∃ v,o=some v∧k v=some r:=by
 unfold dflV at h;split at h
 ·exact ⟨_,rfl,h⟩
 ·cases h
theorem zha {ag:Bool} {size off:Nat} {cs:List D} {k:D→Option R} (h:zxx ag size off cs k=some r):∃ d,zhe ag size off cs=some d∧k d=some r:=by
 unfold zxx at h;unfold zhe;split at h
 ·rename_i e; subst e;obtain ⟨h1,h2⟩:=zaT h
  exact ⟨_,by simp [h1],h2⟩
 ·rename_i e;obtain ⟨d,h1,h2⟩:=zcM h;simp only [Bool.not_eq_true] at e; subst e
  exact ⟨d,by simpa using h1,h2⟩
theorem zgv {L:Loc} {q n i o:Nat} {k:List D→Option R} (h:rowK L q n i o k=some r):∃ l,zeE L q n i o=some l∧k l=some r:=by
 unfold rowK at h;split at h
 ·rename_i T e;obtain ⟨cs,h1,h2⟩:=zcM h;obtain ⟨x,h3,h4⟩:=zcM h2;obtain ⟨l,h5,h6⟩:=zlV h4;subst h5
  exact ⟨l,by simp [zeE,e,zdc,h1,h3],h6⟩
 ·cases h
theorem zqg {L:Loc} {kk:MK} {q n i o:Nat} {k:List (Int×D)→Option R} (h:zrH L kk q n i o k=some r):∃ es,ziE L q n i o=some (kk,es)∧k es=some r:=by
 unfold zrH at h;split at h
 ·rename_i T e;obtain ⟨cs,h1,h2⟩:=zcM h;obtain ⟨x,h3,h4⟩:=zcM h2;obtain ⟨l,h5,h6⟩:=zhp h4;subst h5
  exact ⟨l,by simp [ziE,e,zdc,h1,h3],h6⟩
 ·cases h
theorem ziS {L:Loc} {v:V} {k:List D→Option R} (h:elsK L v k=some r):∃ l,zdH L v=some l∧k l=some r:=by
 cases v with
 | d x=>cases x<;>first | cases h | exact ⟨_,rfl,h⟩
 | ref g n off len=>
  simp only [elsK] at h;simp only [zdH];split at h
  ·rename_i e; rw [e];obtain ⟨h1,h2⟩:=zaT h
   exact ⟨_,by simp [h1,zxw],h2⟩
  ·cases h
 | bref g n off len=>
  simp only [elsK] at h;simp only [zdH];split at h
  ·rename_i e; rw [e];obtain ⟨h1,h2⟩:=zaT h
   exact ⟨_,by simp [h1,zxw],h2⟩
  ·cases h
 | vref q n i o lo len=>
  obtain ⟨l,h1,h2⟩:=zgv (k:=fun l=>sif (lo+len≤l.length) (k (cut lo len l))) h
  obtain ⟨h3,h4⟩:=zaT h2
  exact ⟨_,by simp [zdH,h1,h3,zxw],h4⟩
 | _=>cases h
theorem zrL {L:Loc} {v:V} {k:Nat→Option R} (h:lenK L v k=some r):∃ n,(zdH L v).map List.length=some n∧k n=some r:=by
 cases v with
 | d x=>cases x<;>first | cases h | exact ⟨_,rfl,h⟩
 | ref g n off len=>
  simp only [lenK] at h;simp only [zdH];split at h
  ·rename_i e; rw [e];obtain ⟨h1,h2⟩:=zaT h
   exact ⟨len,by simp [h1]; omega,h2⟩
  ·cases h
 | bref g n off len=>
  simp only [lenK] at h;simp only [zdH];split at h
  ·rename_i e; rw [e];obtain ⟨h1,h2⟩:=zaT h
   exact ⟨len,by simp [h1]; omega,h2⟩
  ·cases h
 | vref q n i o lo len=>
  obtain ⟨l,h1,h2⟩:=zgv (k:=fun l=>sif (lo+len≤l.length) (k len)) h
  obtain ⟨h3,h4⟩:=zaT h2
  exact ⟨len,by simp [zdH,h1,h3]; omega,h4⟩
 | _=>cases h
theorem zAj {L:Loc} {kk:MK} {v:V} {k:List (Int×D)→Option R} (h:esK L kk v k=some r):∃ es,esOf L v=some (kk,es)∧k es=some r:=by
 unfold esK at h;split at h
 ·split at h
  ·rename_i e; subst e; exact ⟨_,rfl,h⟩
  ·cases h
 ·split at h
  ·rename_i e1;split at h
   ·rename_i e; subst e; exact ⟨_,by simp only [esOf,e1],h⟩
   ·cases h
  ·cases h
 ·exact zqg h
 ·cases h
theorem zhq {L:Loc} {v:V} {x:Option R} (h:zrI L v x=some r):zeF L v=true∧x=some r:=by
 unfold zrI at h;split at h
 ·split at h
  ·rename_i e;obtain ⟨h1,h2⟩:=zaT h
   exact ⟨by simp only [zeF,e]; exact decide_eq_true h1,h2⟩
  ·rename_i e
   exact ⟨by simp only [zeF,e],h⟩
  ·cases h
 ·obtain ⟨n,h1,h2⟩:=zrL h
  exact ⟨by
   simp only [zeF]
   cases he:zdH L _ with
   | none=>rw [he] at h1; cases h1
   | some _=>rfl,h2⟩
 ·obtain ⟨n,h1,h2⟩:=zrL h
  exact ⟨by
   simp only [zeF]
   cases he:zdH L _ with
   | none=>rw [he] at h1; cases h1
   | some _=>rfl,h2⟩
 ·split at h
  ·rename_i T e;obtain ⟨cs,h1,h2⟩:=zcM h;obtain ⟨d,h3,h4⟩:=zcM h2;obtain ⟨h5,h6⟩:=zaT h4;refine ⟨?_,h6⟩;split at h5
   ·simp [zeF,esOf,ziE,e,zdc,h1,h3]
   ·cases h5
  ·cases h
 ·split at h
  ·rename_i e; exact ⟨e,h⟩
  ·cases h
theorem zqh {L:Loc} {x:Option R}:∀ {vs:List V},zyQ L vs x=some r→(vs.all fun v=>zeF L v)=true∧x=some r
 | [],h=>⟨rfl,h⟩
 | v::vs,h=>by
  obtain ⟨h1,h2⟩:=zhq h;obtain ⟨h3,h4⟩:=zqh h2
  exact ⟨by simp only [List.all_cons,h1,h3,Bool.and_self],h4⟩
theorem zjz {L:Loc} {v:V} {x:Option R} (h:zue L v x=some r):zmU L v=true∧x=some r:=by
 unfold zue at h;split at h
 ·split at h
  ·rename_i e;obtain ⟨h1,h2⟩:=zaT h
   exact ⟨by simp only [zmU,e]; exact decide_eq_true h1,h2⟩
  ·cases h
 ·obtain ⟨els,h1,h2⟩:=zgv h;obtain ⟨h3,h4⟩:=zaT h2
  exact ⟨by simp only [zmU,h1]; exact decide_eq_true h3,h4⟩
 ·split at h
  ·rename_i e; exact ⟨e,h⟩
  ·cases h
theorem zeJ {L:Loc} {v:V} {k:D→Wr→Option R} (h:zyR L v k=some r):∃ x w,toD1 L v=some (x,w)∧k x w=some r:=by
 cases v with
 | d x=>exact ⟨_,_,rfl,h⟩
 | p q x=>exact ⟨_,_,rfl,h⟩
 | ref g n off len=>
  simp only [zyR] at h;simp only [toD1];split at h
  ·rename_i e; rw [e];split at h
   ·rename_i hg;obtain ⟨h1,h2⟩:=zaT h;rw [zxw] at h2
    exact ⟨_,_,by simp [h1,hg],h2⟩
   ·cases h
  ·cases h
 | _=>cases h
theorem zrM {L:Loc}:∀ {vs:List V} {k:List D→Wr→Option R},zCD L vs k=some r→∃ xs w,zrh L vs=some (xs,w)∧k xs w=some r
 | [],k,h=>⟨[],[],rfl,h⟩
 | v::vs,k,h=>by
  obtain ⟨x,w,h1,h2⟩:=zeJ h
  obtain ⟨xs,ws,h3,h4⟩:=zrM (k:=fun xs ws=>k (x::xs) (w++ws)) h2
  exact ⟨_,_,by rw [zrh,h1]; dsimp only [Option.bind_some]; rw [h3]; rfl,h4⟩
theorem zBf {L:Loc} {v:V} {k:D→Wr→Option R} (h:zGN L v k=some r):∃ x w,toD2 L v=some (x,w)∧k x w=some r:=by
 cases v with
 | ptr g n off=>
  simp only [zGN] at h;simp only [toD2];split at h
  ·rename_i e; simp only [e]; exact ⟨_,_,rfl,h⟩
  ·rename_i e; simp only [e]; exact ⟨_,_,rfl,h⟩
  ·rename_i e; simp only [e]; exact ⟨_,_,rfl,h⟩
  ·rename_i e; simp only [e]; exact ⟨_,_,rfl,h⟩
  ·rename_i e; simp only [e];obtain ⟨x,w,h1,h2⟩:=zeJ h
   exact ⟨_,_,by rw [h1]; rfl,h2⟩
  ·cases h
 | d x=>exact zeJ (L:=L) (v:=.d x) h
 | p q x=>exact zeJ (L:=L) (v:=.p q x) h
 | ref g n off len=>exact zeJ (L:=L) (v:=.ref g n off len) h
 | _=>cases h
theorem zm3 {L:Loc}:∀ {vs:List V} {k:List D→Wr→Option R},zAg L vs k=some r→∃ xs w,zu2 L vs=some (xs,w)∧k xs w=some r
 | [],k,h=>⟨[],[],rfl,h⟩
 | v::vs,k,h=>by
  obtain ⟨x,w,h1,h2⟩:=zBf h
  obtain ⟨xs,ws,h3,h4⟩:=zm3 (k:=fun xs ws=>k (x::xs) (w++ws)) h2
  exact ⟨_,_,by rw [zu2,h1]; dsimp only [Option.bind_some]; rw [h3]; rfl,h4⟩
theorem zn6 {L:Loc} {v:V} {k:D→Wr→Option R} (h:toDK L v k=some r):∃ x w,toD L v=some (x,w)∧k x w=some r:=by
 cases v with
 | agg ds ks vs=>
  simp only [toDK] at h;obtain ⟨h0,h⟩:=zaT h;obtain ⟨xs,w,h1,h2⟩:=zrM h
  exact ⟨_,_,by simp only [toD,h0,if_true,h1]; rfl,h2⟩
 | clo f a b=>
  simp only [toDK] at h;obtain ⟨xs,w,h1,h2⟩:=zm3 h;obtain ⟨ys,w',h3,h4⟩:=zm3 h2
  exact ⟨_,_,by simp only [toD,h1,h3]; rfl,h4⟩
 | d x=>exact zeJ (L:=L) (v:=.d x) h
 | p q x=>exact zeJ (L:=L) (v:=.p q x) h
 | ref g n off len=>exact zeJ (L:=L) (v:=.ref g n off len) h
 | _=>cases h
theorem zug {L:Loc}:∀ {vs:List V} {k:List D→Wr→Option R},zGO L vs k=some r→∃ xs w,toDs L vs=some (xs,w)∧k xs w=some r
 | [],k,h=>⟨[],[],rfl,h⟩
 | v::vs,k,h=>by
  obtain ⟨x,w,h1,h2⟩:=zn6 h
  obtain ⟨xs,ws,h3,h4⟩:=zug (k:=fun xs ws=>k (x::xs) (w++ws)) h2
  exact ⟨_,_,by rw [toDs,h1]; dsimp only [Option.bind_some]; rw [h3]; rfl,h4⟩
theorem zqi {z:Nat} {L:Loc} {v:V} {k:D→Wr→Option R} (h:zvy z L v k=some r):∃ x w,ziF z L v=some (x,w)∧k x w=some r:=by
 unfold zvy at h;split at h
 ·exact ⟨_,_,rfl,h⟩
 ·exact ⟨_,_,rfl,h⟩
 ·rename_i x hn hf;obtain ⟨h1,h2⟩:=zaT h;refine ⟨x,[],?_,h2⟩
  have:ziF z L (.d x)=if x.flat=true then some (x,[]) else none:=by
   cases x with
   | sl t l=>cases l<;>cases t<;>first | rfl | exact (hn rfl).elim | exact (hf rfl).elim
   | _=>rfl
  rw [this,if_pos h1]
 ·obtain ⟨h1,h2⟩:=zaT h
  exact ⟨_,_,by simp only [ziF,h1,if_true],h2⟩
 ·rename_i g n off len;split at h
  ·rename_i e;split at h
   ·rename_i hz;obtain ⟨hc,hk⟩:=zdS h;refine ⟨_,_,?_,hk⟩;simp only [ziF,e];exact if_pos ⟨hc.1,hc.2.1,hc.2.2,hz⟩
   ·cases h
  ·rename_i e;split at h
   ·rename_i hz;obtain ⟨hc,hk⟩:=zdS h;refine ⟨_,_,?_,hk⟩;simp only [ziF,e];exact if_pos ⟨hc.1,hc.2.1,hc.2.2,hz⟩
   ·cases h
  ·cases h
 ·split at h
  ·rename_i e;obtain ⟨h1,h2⟩:=zaT h
   exact ⟨_,_,by simp only [ziF,e]; exact if_pos h1,h2⟩
  ·cases h
 ·cases h
theorem zjA {L:Loc}:∀ {zs:List Nat} {vs:List V} {k:List D→Wr→Option R},zq3 L zs vs k=some r→∃ xs w,zhd L zs vs=some (xs,w)∧k xs w=some r
 | [],[],k,h=>⟨[],[],rfl,h⟩
 | [],_::_,k,h=>by cases h
 | _::_,[],k,h=>by cases h
 | z::zs,v::vs,k,h=>by
  obtain ⟨x,w,h1,h2⟩:=zqi h
  obtain ⟨xs,ws,h3,h4⟩:=zjA (k:=fun xs ws=>k (x::xs) (w++ws)) h2
  exact ⟨_,_,by rw [zhd,h1]; dsimp only [Option.bind_some]; rw [h3]; rfl,h4⟩
theorem zer {nw:List Nat} {L:Loc} {v:V} {k:D→Option R} (h:zuf nw L v k=some r):∃ d,zjq nw L v=some d∧k d=some r:=by
 cases v with
 | d x=>exact ⟨_,rfl,h⟩
 | p q x=>exact ⟨_,rfl,h⟩
 | ref g n off len=>
  obtain ⟨l,h1,h2⟩:=ziS (L:=L) (v:=.ref g n off len) (k:=fun l=>k (.sl .lent l)) h
  exact ⟨_,by simp only [zjq,h1]; rfl,h2⟩
 | bref g n off len=>
  obtain ⟨l,h1,h2⟩:=ziS (L:=L) (v:=.bref g n off len) (k:=fun l=>k (.sl .lent l)) h
  exact ⟨_,by simp only [zjq,h1]; rfl,h2⟩
 | vref q n i o lo len=>
  simp only [zuf] at h;split at h
  ·cases h
  ·rename_i hq;obtain ⟨l,h1,h2⟩:=ziS h
   exact ⟨_,by simp only [zjq,hq,if_false,h1]; rfl,h2⟩
 | map g n=>
  simp only [zuf] at h;split at h
  ·rename_i e; exact ⟨_,by simp only [zjq,esOf,e]; rfl,h⟩
  ·cases h
 | _=>cases h
theorem zqj {nw:List Nat} {L:Loc}:∀ {vs:List V} {k:List D→Option R},zyS nw L vs k=some r→∃ ds,znM nw L vs=some ds∧k ds=some r
 | [],k,h=>⟨[],rfl,h⟩
 | v::vs,k,h=>by
  obtain ⟨x,h1,h2⟩:=zer h
  obtain ⟨xs,h3,h4⟩:=zqj (k:=fun xs=>k (x::xs)) h2
  exact ⟨x::xs,by rw [znM,h1]; dsimp only [Option.bind_some]; rw [h3]; rfl,h4⟩
theorem zes {nw:List Nat} {L:Loc} {v:V} {k:D→Option R} (h:zAh nw L v k=some r):∃ d,zqC nw L v=some d∧k d=some r:=by
 cases v with
 | ptr g n off=>
  simp only [zAh] at h;simp only [zqC];split at h
  ·rename_i e; simp only [e]; exact ⟨_,rfl,h⟩
  ·rename_i e; simp only [e]; exact ⟨_,rfl,h⟩
  ·rename_i e; simp only [e]; exact ⟨_,rfl,h⟩
  ·rename_i e; simp only [e]; exact ⟨_,rfl,h⟩
  ·rename_i e; simp only [e]
   obtain ⟨d,h1,h2⟩:=zer (k:=fun d=>k (.at_ d)) h
   exact ⟨_,by rw [h1]; rfl,h2⟩
  ·cases h
 | d x=>exact zer (nw:=nw) (L:=L) (v:=.d x) h
 | p q x=>exact zer (nw:=nw) (L:=L) (v:=.p q x) h
 | ref g n off len=>exact zer (nw:=nw) (L:=L) (v:=.ref g n off len) h
 | bref g n off len=>exact zer (nw:=nw) (L:=L) (v:=.bref g n off len) h
 | vref q n i o lo len=>exact zer (nw:=nw) (L:=L) (v:=.vref q n i o lo len) h
 | map g n=>exact zer (nw:=nw) (L:=L) (v:=.map g n) h
 | _=>cases h
theorem zkP {nw:List Nat} {L:Loc}:∀ {vs:List V} {k:List D→Option R},zrJ nw L vs k=some r→∃ ds,vs.mapM (zqC nw L)=some ds∧k ds=some r
 | [],k,h=>⟨[],rfl,h⟩
 | v::vs,k,h=>by
  obtain ⟨x,h1,h2⟩:=zes h
  obtain ⟨xs,h3,h4⟩:=zkP (k:=fun xs=>k (x::xs)) h2
  exact ⟨x::xs,by simp [List.mapM_cons,h1,h3],h4⟩
theorem zuh {nw:List Nat} {L:Loc} {v:V} {k:D→Option R} (h:zED nw L v k=some r):∃ d,lend nw L v=some d∧k d=some r:=by
 cases v with
 | clo f a b=>
  obtain ⟨a',h1,h2⟩:=zkP (L:=L) (vs:=a) (k:=fun a'=>zrJ nw L b fun b'=>k (.fn f a' b')) h
  obtain ⟨b',h3,h4⟩:=zkP (k:=fun b'=>k (.fn f a' b')) h2
  exact ⟨_,by simp only [lend,h1,h3]; rfl,h4⟩
 | agg ds ks vs=>
  simp only [zED] at h;obtain ⟨h0,h⟩:=zaT h;obtain ⟨xs,h1,h2⟩:=zqj h
  exact ⟨_,by simp only [lend,h0,if_true,h1]; rfl,h2⟩
 | d x=>exact zes (nw:=nw) (L:=L) (v:=.d x) h
 | p q x=>exact zes (nw:=nw) (L:=L) (v:=.p q x) h
 | ref g n off len=>exact zes (nw:=nw) (L:=L) (v:=.ref g n off len) h
 | bref g n off len=>exact zes (nw:=nw) (L:=L) (v:=.bref g n off len) h
 | vref q n i o lo len=>exact zes (nw:=nw) (L:=L) (v:=.vref q n i o lo len) h
 | map g n=>exact zes (nw:=nw) (L:=L) (v:=.map g n) h
 | ptr g n off=>exact zes (nw:=nw) (L:=L) (v:=.ptr g n off) h
 | _=>cases h
theorem zrN {nw:List Nat} {L:Loc}:∀ {vs:List V} {k:List D→Option R},zCE nw L vs k=some r→∃ ds,vs.mapM (lend nw L)=some ds∧k ds=some r
 | [],k,h=>⟨[],rfl,h⟩
 | v::vs,k,h=>by
  obtain ⟨x,h1,h2⟩:=zuh h
  obtain ⟨xs,h3,h4⟩:=zrN (k:=fun xs=>k (x::xs)) h2
  exact ⟨x::xs,by simp [List.mapM_cons,h1,h3],h4⟩
theorem zGV {d:D} {ag:Bool} {n:Nat} (h:d.isAgg=ag∧d.width=n∧d.cell= !ag):eltD ag n 0 d=some d:=by
 obtain ⟨h1,h2,h3⟩:=h;subst h1
 cases d with
 | undef=>exact absurd (show false=true from h3) (by decide)
 | tup l=>exact absurd (show false=true from h3) (by decide)
 | agg cs=>
  have h2:cs.length=n:=h2;subst h2;show zhe true cs.length 0 cs=some (.agg cs)
  simp [zhe]
 | _=>rfl
theorem zxy {P:Program} {t:TypeId} {ag:Bool} {sz n off:Nat} {x:D} {k:V→Option R} (h:eltK P t ag sz n off x k=some r):∃ d,eltD ag n off x=some d∧k (.d d)=some r:=by
 unfold eltK at h;split at h
 ·rename_i hc;obtain ⟨hc2,hk⟩:=zdS (zeq h);rw [hc.1];exact ⟨x,zGV hc2,hk⟩
 ·obtain ⟨cs,e,h1⟩:=ziR h;subst e;obtain ⟨d,h2,h3⟩:=zha h1
  exact ⟨d,h2,zeq (f:=fun d=>k (.d d)) h3⟩
theorem zyW {P:Program} {L:Loc} {t:TypeId} {q i off n:Nat} {ag fl:Bool} {k:V→Option R} (h:zCF P L t q i off n ag fl k=some r):∃ v,zBX L q i off n ag fl=some v∧k v=some r:=by
 unfold zCF at h;unfold zBX;split at h
 ·rename_i w T e;rw [e];obtain ⟨cs,h1,h2⟩:=zcM h;dsimp only;rw [h1];dsimp only;split at h2
  ·rename_i hag;obtain ⟨h3,h4⟩:=zaT h2;rw [if_pos hag,if_pos h3];split at h4
   ·rename_i hfl;obtain ⟨h5,h6⟩:=zaT h4;rw [if_pos hfl]
    exact ⟨_,if_pos h5,zeq (f:=fun d=>k (.d d)) h6⟩
   ·rename_i hfl;rw [if_neg hfl];exact ⟨_,rfl,h4⟩
  ·rename_i hag;rw [if_neg hag];obtain ⟨x,h3,h4⟩:=zcM h2;rw [h3];split at h4
   ·obtain ⟨l,e2,h5⟩:=zlV h4;subst e2;exact ⟨_,rfl,h5⟩
   ·split at h4
    ·obtain ⟨l,e2,h5⟩:=zhp h4;subst e2;exact ⟨_,rfl,h5⟩
    ·cases h4
   ·obtain ⟨h5,h6⟩:=zaT (zeq h4);refine ⟨_,?_,h6⟩;split
    ·rename_i e2; injection e2 with e2; subst e2; cases h5
    ·rename_i e2; injection e2 with e2; subst e2; cases h5
    ·rename_i e2; injection e2 with e2; subst e2; rw [if_pos h5]
    ·rename_i e2; cases e2
 ·cases h
theorem zxz {P:Program} {t:TypeId} {ag:Bool} {n off:Nat} {ds:List D} {ks:List Nat} {vs:List V} {k:V→Option R} (h:zyT P t ag n off ds ks vs k=some r):∃ v,znN ag n off ds ks vs=some v∧k v=some r:=by
 unfold zyT at h;unfold znN;split at h
 ·rename_i hag;obtain ⟨h1,h2⟩:=zaT h;rw [if_pos hag];exact ⟨_,if_pos h1,h2⟩
 ·rename_i hag;obtain ⟨h1,h2⟩:=zaT h;rw [if_neg hag,if_pos h1];split at h2
  ·rename_i e; rw [e]; exact ⟨_,rfl,h2⟩
  ·rename_i e; rw [e];obtain ⟨d,h3,h4⟩:=zcM h2
   exact ⟨.d d,by simp [h3],zeq (f:=fun d=>k (.d d)) h4⟩
theorem zui {P:Program} {L:Loc} {t:TypeId} {p:V} {k:V→Option R} (h:zEE P L t p k=some r):∃ v,zAX P L t p=some v∧k v=some r:=by
 unfold zEE at h;unfold zAX;split at h
 ·rename_i ag n h1 h2;rw [h1,h2];dsimp only;split at h
  ·obtain ⟨hc,hk⟩:=zdS (zeq h)
   exact ⟨_,by simp [hc],hk⟩
  ·exact zyW h
  ·split at h
   ·rename_i e;obtain ⟨d,h3,h4⟩:=zha h
    exact ⟨_,by simp [e,h3],zeq (f:=fun d=>k (.d d)) h4⟩
   ·rename_i e;obtain ⟨d,h3,h4⟩:=zha h
    exact ⟨_,by simp [e,h3],zeq (f:=fun d=>k (.d d)) h4⟩
   ·rename_i e;obtain ⟨v,h3,h4⟩:=zxz h
    exact ⟨v,by simp [e,h3],h4⟩
   ·cases h
  ·split at h
   ·rename_i e;obtain ⟨x,h3,h4⟩:=zcM h;obtain ⟨d,h5,h6⟩:=zxy h4
    exact ⟨_,by simp [e,h3,h5],h6⟩
   ·cases h
  ·obtain ⟨els,h3,h4⟩:=zgv h;obtain ⟨x,h5,h6⟩:=zcM h4;obtain ⟨d,h7,h8⟩:=zxy h6
   exact ⟨_,by simp [h3,h5,h7],h8⟩
  ·cases h
 ·cases h
theorem zyX {ag:Bool} {n sz off:Nat} {e v:D} (hx:∀ xs,v=.agg xs→False) (hc:ag=false∧n=1∧v.cell=true):
  zgs ag n sz off e v=(match e with
   | .agg cs=>if off < cs.length then some (.agg (cs.set off v)) else none
   | _=>if off=0∧sz=1 then some v else none):=by
 unfold zgs
 cases v<;>first | exact (hx _ rfl).elim | (dsimp only; rw [if_pos hc]; cases e<;>rfl)
theorem zkQ {ag:Bool} {n sz off:Nat} {e v:D} {k:D→Option R} (h:zrK ag n sz off e v k=some r):∃ y,zgs ag n sz off e v=some y∧k y=some r:=by
 unfold zrK at h;split at h
 ·obtain ⟨hc,hk⟩:=zcF h
  exact ⟨_,by unfold zgs; exact if_pos hc,hk⟩
 ·rename_i x hx;obtain ⟨hc,hk⟩:=zdS h;rw [zyX hx hc];split at hk
  ·rename_i hsz;obtain ⟨hc2,hk2⟩:=zcL hk;refine ⟨_,?_,hk2⟩
   cases e<;>first | (exfalso; have:=hc2.1; simp [D.isAgg] at this; done) | (dsimp only; rw [if_pos ⟨hc2.2,hsz⟩])
  ·obtain ⟨cs,e2,h5⟩:=ziR hk;subst e2;obtain ⟨h6,h7⟩:=zaT h5
   exact ⟨_,by dsimp only; rw [if_pos h6],h7⟩
theorem zxA {P:Program} {L:Loc} {q i off n:Nat} {ag fl:Bool} {v:V} {k:Out→Option R} (h:zyU P L q i off n ag fl v k=some r):∃ out,ziG L q i off n ag fl v=some out∧k out=some r:=by
 unfold zyU at h;unfold ziG;split at h
 ·rename_i T e;rw [e];obtain ⟨cs,h1,h20⟩:=zcM h;obtain ⟨h0,h2⟩:=zaT h20;clear h h20;dsimp only;rw [h1];dsimp only;rw [if_pos h0];split at h2
  ·rename_i hfl;rw [if_pos hfl];split at h2
   ·obtain ⟨hc,hk⟩:=zcF h2;have hk:=ze4 hk
    exact ⟨_,by dsimp only; exact if_pos hc,hk⟩
   ·rename_i x hx;obtain ⟨hc,hk⟩:=zcF h2;have hk:=ze4 hk;refine ⟨_,?_,hk⟩
    cases x<;>first | exact (hx _ rfl).elim | (dsimp only; exact if_pos hc)
   ·cases h2
  ·rename_i hfl;rw [if_neg hfl];split at h2
   ·rename_i hag;rw [if_pos hag];split at h2
    ·obtain ⟨hc,hk⟩:=zcL h2;have hk:=ze4 hk
     exact ⟨_,by dsimp only; exact if_pos hc,hk⟩
    ·obtain ⟨xs,w,h3,h4⟩:=zjA h2;obtain ⟨hc,hk⟩:=zcF h4;have hk:=ze4 hk
     exact ⟨_,by dsimp only; rw [h3]; dsimp only [Option.bind_some]; exact if_pos hc,hk⟩
    ·cases h2
   ·rename_i hag;rw [if_neg hag];obtain ⟨x,w,h3,h4⟩:=zqi h2;split at h4
    ·rename_i hn;have hk:=ze4 h4
     exact ⟨_,by rw [h3]; dsimp only [Option.bind_some]; exact if_pos hn,hk⟩
    ·cases h4
 ·cases h
theorem zCN {a v:V} {k:V→Option R} (h:unpK a v k=some r):k v.unp=some r:=by
 unfold unpK at h;split at h
 ·obtain ⟨i,hd,h'⟩:=zn5 h;subst hd;exact h'
 ·exact h
theorem zyY {P:Program} {L:Loc} {t:TypeId} {p v:V} {k:Out→Option R} (h:zCG P L t p v k=some r):
  ∃ out,zwP P L t p v=some out∧k out=some r:=by
 unfold zCG at h;split at h
 ·rename_i ag n h1 h2;unfold zwP;rw [h1,h2];dsimp only;split at h
  ·rename_i g l off;dsimp only;split at h
   ·rename_i a ds e;rw [e];dsimp only;split at h
    ·obtain ⟨hc,hk⟩:=zdS h
     exact ⟨_,by dsimp only; rw [if_pos hc],by rw [zF3 hc.2.1] at hk; exact hk⟩
    ·obtain ⟨hc,hk⟩:=zcF h
     exact ⟨_,by dsimp only; rw [if_pos hc],hk⟩
    ·rename_i x hx;obtain ⟨hc,hk⟩:=zcF h;refine ⟨_,?_,hk⟩
     cases x<;>first | exact (hx _ rfl).elim | (dsimp only; rw [if_pos hc])
    ·rename_i hn1 hn2 hn3;obtain ⟨hc,hk⟩:=zcF h;refine ⟨_,?_,hk⟩
     cases v<;>first | exact (hn3 _ rfl).elim | exact (hn2 _ _ _ rfl).elim | (dsimp only; rw [if_pos hc])
   ·rename_i a ds ks vs e;rw [e];dsimp only;split at h
    ·obtain ⟨hc,hk⟩:=zdS h
     exact ⟨_,by dsimp only; rw [if_pos hc],hk⟩
    ·obtain ⟨hc,hk⟩:=zcF h
     exact ⟨_,by dsimp only; rw [if_pos hc],hk⟩
    ·rename_i x hx;obtain ⟨hc,hk⟩:=zcF h;refine ⟨_,?_,hk⟩
     cases x<;>first | exact (hx _ rfl).elim | (dsimp only; rw [if_pos hc])
    ·rename_i hn1 hn2 hn3;obtain ⟨hc,hk⟩:=zcF h;refine ⟨_,?_,hk⟩
     cases v<;>first | exact (hn3 _ rfl).elim | exact (hn2 _ _ _ rfl).elim | (dsimp only; rw [if_pos hc])
   ·cases h
  ·rename_i g l i off;dsimp only;split at h
   ·rename_i sz els e;rw [e];dsimp only;obtain ⟨d,h3,h4⟩:=zcM h;rw [h3];dsimp only [Option.bind_some];split at h4
    ·obtain ⟨y,h5,h6⟩:=zkQ h4
     exact ⟨_,by dsimp only; rw [h5]; rfl,h6⟩
    ·rename_i hn;obtain ⟨x,w,h5,h6⟩:=zn6 h4;split at h6
     ·cases h6
     ·rename_i hg;obtain ⟨y,h7,h8⟩:=zkQ h6;refine ⟨_,?_,h8⟩
      have:((toD L v).bind fun r=>if g∈r.2.map (·.1) then none else (zgs ag n sz off d r.1).map fun y=>({ v:=.d (.tup []),wr:=r.2++[(g,(l,.arr sz (els.set i y) true))] }:Out))=some { v:=.d (.tup []),wr:=w++[(g,(l,.arr sz (els.set i y) true))] }:=by
       rw [h5]; dsimp only [Option.bind_some]; rw [if_neg hg,h7]; rfl
      cases v<;>first | exact (hn _ rfl).elim | exact this
   ·cases h
  ·rename_i q l i o j off;dsimp only;split at h
   ·rename_i x T e;obtain ⟨els,h3,h4⟩:=zgv h;obtain ⟨d,h5,h6⟩:=zcM h4;obtain ⟨y,h7,h8⟩:=zkQ h6;obtain ⟨h9,h10⟩:=zaT h8;have hk:=ze4 h10
    exact ⟨_,by rw [e,h3]; dsimp only; rw [h5]; dsimp only [Option.bind_some]; rw [h7]; dsimp only [Option.bind_some]; rw [if_pos h9],hk⟩
   ·cases h
  ·exact zxA h
  ·cases h
 ·cases h
end
end Wf

namespace Wf
open Go Go.RowKit
set_option linter.unusedVariables false
set_option linter.unusedSimpArgs false
section
variable {R:Type} {r:R}
theorem zvC {P:Program} {L:Loc} {t:Nat} {ty:TypeId} {s:V} {m:Int} {k:Out→Option R} (h:zvz P L t ty s m k=some r):
  ∃ out,znR P L t ty s m=some out∧k out=some r:=by
 unfold zvz at h;unfold znR;split at h
 ·split at h
  ·rename_i sz' els e;split at h
   ·rename_i sz et h3 hu;split at h
    ·rename_i z hz;split at h
     ·rename_i hg;obtain ⟨hc,hk⟩:=zcF h;refine ⟨_,?_,hk⟩;dsimp only
      rw [e,zf9 h3 (by simpa using hc.2.1)]
      simp [hu,hz,hc,hg]
     ·cases h
    ·cases h
   ·cases h
  ·cases h
 ·cases h
theorem zxB {P:Program} {L:Loc} {t:Nat} {ty:TypeId} {s x:V} {k:Out→Option R} (h:zyV P L t ty s x k=some r):
  ∃ out,zrj P L t ty s x=some out∧k out=some r:=by
 unfold zyV at h;obtain ⟨xs,h1,h2⟩:=ziS h;unfold zrj;rw [h1];dsimp only;split at h2
 ·cases h2
 ·rename_i sz h3;split at h2
  ·obtain ⟨hc,hk⟩:=zcL h2
   exact ⟨_,by dsimp only; rw [zf9 h3 (by simpa using hc.1)]; simp [hc.2],hk⟩
  ·obtain ⟨hc,hk⟩:=zcL h2
   exact ⟨_,by dsimp only; rw [zf9 h3 (by simpa using hc.1)]; simp [hc.2],hk⟩
  ·rename_i y l;obtain ⟨hc,hk⟩:=zcF h2;refine ⟨_,?_,hk⟩
   cases xs with
   | nil=>exact absurd rfl hc.1
   | cons x0 xs=>
    dsimp only
    rw [zf9 h3 (by simpa using hc.2.1)]
    simp [hc.2.2.1,hc.2.2.2]
  ·rename_i g n off len;split at h2
   ·rename_i sz' els e;split at h2
    ·rename_i hg;obtain ⟨hc,hk⟩:=zcF h2;refine ⟨_,?_,hk⟩;dsimp only
     rw [e,zf9 h3 (by simpa using hc.1)]
     simp [hc.2,hg]
    ·cases h2
   ·cases h2
  ·rename_i q n i o lo len;split at h2
   ·rename_i T e;obtain ⟨els,h4,h5⟩:=zgv h2;obtain ⟨hc,h6⟩:=zcF h5;have hk:=ze4 h6;refine ⟨_,?_,hk⟩;dsimp only;simp only [e,h4]
    rw [zf9 h3 (by simpa using hc.1)]
    exact if_pos hc.2
   ·cases h2
  ·cases h2
theorem zxC {P:Program} {L:Loc} {ty2:TypeId} {x:V} {k:List D→Option R} (h:srcK P L ty2 x k=some r):∃ l,zwT P L ty2 x=some l∧k l=some r:=by
 unfold srcK at h;split at h
 ·rename_i e
  exact ⟨_,by simp only [zwT,e,if_true],h⟩
 ·cases h
 ·rename_i e;obtain ⟨l,h1,h2⟩:=ziS h;refine ⟨l,?_,h2⟩;unfold zwT;split
  ·cases h1
  ·rw [if_neg (by rw [e]; simp)]; exact h1
theorem zBg {P:Program} {L:Loc} {ty ty2:TypeId} {s x:V} {k:Out→Option R} (h:zGP P L ty ty2 s x k=some r):
  ∃ out,zAY P L ty ty2 s x=some out∧k out=some r:=by
 unfold zGP at h;split at h
 ·rename_i g n off len ez h1;split at h
  ·rename_i sz els e;obtain ⟨xs,h2,h3⟩:=zxC h;obtain ⟨hc,hk⟩:=zcF h3
   exact ⟨_,by unfold zAY; rw [h1,h2]; dsimp only; rw [e]; exact if_pos hc,hk⟩
  ·cases h
 ·rename_i g n off len ez h1;split at h
  ·rename_i a ds e;obtain ⟨xs,h2,h3⟩:=zxC h;obtain ⟨⟨c1,c2,c3,c4⟩,hk⟩:=zcF h3
   refine ⟨_,by unfold zAY; rw [h1,h2]; dsimp only; rw [e]; exact if_pos ⟨c1,c2,c3⟩,?_⟩
   subst c4;simpa using hk
  ·cases h
 ·cases h
theorem zBh {sz:Nat} {l:List D} (h:zqE sz l=true):(l.all fun d=>d.cell || d.isAgg)=true∧(l.all fun d=>some d.width=some sz)=true:=by
 simp only [zqE,List.all_eq_true,Bool.and_eq_true,decide_eq_true_eq] at*
 exact ⟨fun x hx=>(h x hx).1,fun x hx=>by rw [(h x hx).2]⟩
theorem zyZ {P:Program} {L:Loc} {t:TypeId} {x:V} {lo hi mx:Option V} {k:V→Option R} (h:zCH P L t x lo hi mx k=some r):
  ∃ v,zwU P L t x lo hi mx=some v∧k v=some r:=by
 unfold zCH at h;unfold zwU;split at h
 ·rename_i lo' hi' mx' h1 h2 h3;rw [h1,h2,h3];dsimp only;split at h
  ·dsimp only at h;split at h
   ·rename_i sz hsz;obtain ⟨hc,hk⟩:=zn4 h;obtain ⟨c2,c3,c4,c5,c6,c7⟩:=hc;obtain ⟨q1,q2⟩:=zBh c7
    exact ⟨_,by dsimp only; rw [if_pos ⟨by rw [hsz]; rfl,c2,c3,c4,c5,c6,q1,by rw [hsz]; exact q2⟩]; rfl,hk⟩
   ·cases h
  ·obtain ⟨hc,hk⟩:=zn3 h
   exact ⟨_,by dsimp only; rw [if_pos hc],hk⟩
  ·rename_i g n off len;dsimp only at h ⊢;split at h
   ·rename_i sz sz' els lv e1 e2;rw [e1,e2];dsimp only;split at h
    ·rename_i hsz;split at h
     ·obtain ⟨hc,hk⟩:=zdS h
      exact ⟨_,by rw [if_pos ⟨hsz,hc.1,hc.2.1,hc.2.2,.inl rfl⟩,if_pos rfl],hk⟩
     ·rename_i m;obtain ⟨hc,hk⟩:=zn3 h;obtain ⟨c1,c2,c3,c4,c5⟩:=hc
      exact ⟨_,by rw [if_pos ⟨hsz,c4,by rw [c3]; exact Int.le_refl _,c5,.inr ⟨c1,by rw [c2],c3⟩⟩,if_neg (by simp)],hk⟩
    ·cases h
   ·cases h
  ·rename_i g n off len;dsimp only at h ⊢;split at h
   ·rename_i sz a ds m e1 e2;rw [e1,e2];dsimp only;split at h
    ·rename_i hsz;obtain ⟨hc,hk⟩:=zn4 h;obtain ⟨c1,c2,c3,c4,c5,c6⟩:=hc
     exact ⟨_,by rw [if_pos ⟨hsz,c1,c5,by rw [c4]; exact Int.le_refl _,c6,c2,by rw [c3],c4⟩],hk⟩
    ·cases h
   ·cases h
  ·rename_i q n i o off len;dsimp only at h ⊢;split at h
   ·rename_i sz e1;rw [e1];split at h
    ·rename_i hsz;obtain ⟨l,e2,h4⟩:=zgv h;obtain ⟨h5,h6⟩:=zaT h4;rw [e2];dsimp only;split at h6
     ·obtain ⟨hc,hk⟩:=zdS h6
      exact ⟨_,by rw [if_pos ⟨hsz,h5,hc.1,hc.2.1,hc.2.2,.inl rfl⟩,if_pos rfl],hk⟩
     ·rename_i m;obtain ⟨hc,hk⟩:=zn3 h6;obtain ⟨c1,c2,c3,c4,c5⟩:=hc
      exact ⟨_,by rw [if_pos ⟨hsz,h5,c4,by rw [c3]; exact Int.le_refl _,c5,.inr ⟨c1,by rw [c2],c3⟩⟩,if_neg (by simp)],hk⟩
    ·cases h
   ·cases h
  ·rename_i g n off;dsimp only at h ⊢;split at h
   ·rename_i q sz ag a' ds e1 e2;rw [e1,e2];obtain ⟨hc,hk⟩:=zCB h;exact ⟨_,if_pos hc,hk⟩
   ·cases h
  ·cases h
 ·cases h
theorem zrO {P:Program} {L:Loc} {t:TypeId} {x i:V} {k:V→Option R} (h:zpi P L t x i k=some r):
  ∃ v,ziH P L t x i=some v∧k v=some r:=by
 unfold zpi at h;split at h
 ·rename_i q n;unfold ziH;dsimp only;split at h
  ·split at h
   ·rename_i sz e h1 h2;obtain ⟨h0,h3⟩:=zaT h;obtain ⟨d,h4,h5⟩:=zcM h3;obtain ⟨hc,hk⟩:=zcL (zeq h5)
    exact ⟨_,by rw [if_neg (by omega)]; dsimp only; rw [h1,h4]; dsimp only; rw [if_pos hc],hk⟩
   ·cases h
  ·split at h
   ·rename_i sz sz' els lv h1 h2;split at h
    ·rename_i hsz;obtain ⟨hc,hk⟩:=zcL h
     exact ⟨_,by rw [if_neg (by omega)]; dsimp only; rw [h1,h2]; dsimp only; rw [if_pos ⟨hc.2,hsz⟩],hk⟩
    ·cases h
   ·cases h
  ·split at h
   ·rename_i sz h1;split at h
    ·rename_i hsz;obtain ⟨els,h2,h3⟩:=zgv h;obtain ⟨hc,hk⟩:=zcL h3
     exact ⟨_,by rw [if_neg (by omega)]; dsimp only; rw [h1,h2]; dsimp only; rw [if_pos ⟨hc.2,hsz⟩],hk⟩
    ·cases h
   ·cases h
  ·split at h
   ·rename_i sz h1;obtain ⟨hc,hk⟩:=zdS h
    exact ⟨_,by rw [if_neg (by omega)]; dsimp only; rw [h1]; dsimp only; rw [if_pos ⟨hc.1,hc.2.2⟩],hk⟩
   ·cases h
  ·split at h
   ·rename_i m sz ag h1;obtain ⟨hc,hk⟩:=zcL h
    exact ⟨_,by rw [if_neg (by omega)]; dsimp only; rw [h1]; dsimp only; rw [if_pos hc.2],hk⟩
   ·cases h
  ·split at h
   ·rename_i m sz ag h1;obtain ⟨hc,h2⟩:=zcL h;obtain ⟨d,h3,hk⟩:=zha h2
    exact ⟨_,by rw [if_neg (by omega)]; dsimp only; rw [h1]; dsimp only; rw [if_pos hc.2,h3]; rfl,hk⟩
   ·cases h
  ·split at h
   ·rename_i m sz ag h1;obtain ⟨hc,hk⟩:=zcL h
    exact ⟨_,by rw [if_neg (by omega)]; dsimp only; rw [h1]; dsimp only; rw [if_pos hc.2],hk⟩
   ·cases h
  ·split at h
   ·rename_i m sz ag h1;obtain ⟨hc,hk⟩:=zcL h
    exact ⟨_,by rw [if_neg (by omega)]; dsimp only; rw [h1]; dsimp only; rw [if_pos hc.2],hk⟩
   ·cases h
  ·split at h
   ·rename_i m sz ag h1;obtain ⟨hc,hk⟩:=zcL h
    exact ⟨_,by rw [if_neg (by omega)]; dsimp only; rw [h1]; dsimp only; rw [if_pos hc.2],hk⟩
   ·cases h
  ·cases h
 ·cases h
theorem zCO {d:D} {k:D→Option R} (h:letD d k=some r):k d=some r:=by
 cases d with
 | int q n=>
  have h:letN n (fun n=>k (.int q n))=some r:=h
  rw [zam] at h; exact h
 | _=>exact h
theorem zy0 {L:Loc} {v:V} {k:Out→Option R} (h:zCI L v k=some r):∃ o,zwS L v=some o∧k o=some r:=by
 unfold zCI at h;unfold zwS;split at h
 ·split at h
  ·rename_i e;obtain ⟨h1,h2⟩:=zaT h;dsimp only;rw [e];exact ⟨_,if_pos h1,h2⟩
  ·cases h
 ·cases h
theorem zCP {bt:Bool} {op:BinOp} {a b:D} {k:D→Option R} (h:binK bt op a b k=some r):∃ d,abin bt op a b=some d∧k d=some r:=by
 unfold binK at h;split at h
 ·split at h
  ·rename_i e; subst e;obtain ⟨h0,h1⟩:=zaT h;simp only [zam] at h1
   exact ⟨_,by simp [abin,ibin,h0],h1⟩
  ·cases h
 ·split at h
  ·rename_i e; subst e;obtain ⟨h0,h1⟩:=zaT h;simp only [zam] at h1
   exact ⟨_,by simp [abin,ibin,h0],h1⟩
  ·cases h
 ·obtain ⟨h0,h1⟩:=zaT h;rw [zam] at h1
  exact ⟨_,by simp [abin,zwO,Int.not_lt.2 h0],h1⟩
 ·obtain ⟨h0,h1⟩:=zaT h;rw [zam] at h1
  exact ⟨_,by simp [abin,zwO,Int.not_lt.2 h0],h1⟩
 ·split at h
  ·exact ⟨_,by assumption,zCO h⟩
  ·cases h
theorem zEG {b:Bool} {x y:Option R} (h:brK b x y=some r):(b=true∧x=some r)∨(b=false∧y=some r):=by
 cases b
 ·exact .inr ⟨rfl,h⟩
 ·exact .inl ⟨rfl,h⟩
theorem zuj {L:Loc} {q:Nat} {a:V} {k:Bool→Option R} (h:zEF L q a k=some r):∃ b,zqD L q a=some b∧k b=some r:=by
 unfold zEF at h;split at h
 ·rcases zub h with ⟨e,hk⟩ | ⟨⟨_,_,_,e⟩ | ⟨_,e⟩,hk⟩<;>subst e<;>exact ⟨_,rfl,hk⟩
 ·rcases zub h with ⟨e,hk⟩ | ⟨⟨_,_,_,e⟩ | ⟨_,e⟩,hk⟩<;>subst e
  ·exact ⟨_,rfl,hk⟩
  ·exact ⟨_,rfl,hk⟩
  ·exact ⟨_,rfl,hk⟩
 ·rcases zyP h with ⟨e,hk⟩ | ⟨⟨_,_,_,e⟩,hk⟩<;>subst e<;>exact ⟨_,rfl,hk⟩
 ·rcases zEG h with ⟨e,h1⟩ | ⟨e,h1⟩
  ·rename_i t l
   cases l with
   | cons _ _=>cases e
   | nil=>
    split at h1
    ·rename_i ht; subst ht; exact ⟨_,rfl,h1⟩
    ·split at h1
     ·rename_i ht; subst ht; exact ⟨_,rfl,h1⟩
     ·obtain ⟨h2,h3⟩:=zaT h1;subst h2; exact ⟨_,rfl,h3⟩
  ·rename_i t l
   cases l with
   | nil=>cases e
   | cons _ _=>exact ⟨_,rfl,h1⟩
 ·obtain ⟨h1,h2⟩:=zhq h;obtain ⟨h3,h4⟩:=zaT h2
  exact ⟨_,by simp only [zqD]; simp [h1,h3],h4⟩
 ·obtain ⟨h1,h2⟩:=zhq h;obtain ⟨h3,h4⟩:=zaT h2
  exact ⟨_,by simp only [zqD]; simp [h1,h3],h4⟩
 ·split at h
  ·rename_i b e; exact ⟨b,e,h⟩
  ·cases h
theorem zBi {d:D} {k:V→Wr→Option R} (h:zGR d k=some r):k (.d d) []=some r∧(∀ l,d≠.tup l)∧∀ l,d≠.sl .own l:=by
 obtain ⟨h1,h2⟩:=zaT h;refine ⟨h2,?_,?_⟩
 ·rintro l rfl; cases h1
 ·rintro l rfl; cases h1
theorem zqk {P:Program} {L:Loc} {id sz:Nat} {t:TypeId} {d:D} {k:V→Wr→Option R} (h:zvA P L id sz t d k=some r):k (zgr L id sz d).1 (zgr L id sz d).2=some r∧∀ l,d≠.tup l:=by
 unfold zvA at h;split at h
 ·obtain ⟨h1,h2,h3⟩:=zBi (zeq (f:=fun d=>zGR d k) h)
  refine ⟨?_,h2⟩
  have:zgr L id sz d=(.d d,[]):=by
   unfold zgr;split
   ·exact (h3 _ rfl).elim
   ·rfl
  rw [this]; exact h1
 ·obtain ⟨els,e,h⟩:=zlV h
  subst e; exact ⟨h,by simp⟩
theorem zCQ {n:Nat} {l:List D} {k:List D→Option R} (h:tupN n l k=some r):k l=some r:=by
 obtain ⟨x,e,h⟩:=zeI h;rw [e]; exact h
theorem zql {P:Program} {L:Loc} {t:Nat}:∀ {szs:List Nat} {j:Nat} {tys:List TypeId} {ds:List D} {k:List V→Wr→Option R},zvB P L t j szs tys ds k=some r→
  k (zh1 L t j szs ds).1 (zh1 L t j szs ds).2=some r
 | [],j,[],[],k,h=>h
 | [],j,_::_,_,k,h=>by cases h
 | [],j,[],_::_,k,h=>by cases h
 | _::_,j,[],_,k,h=>by cases h
 | _::_,j,_::_,[],k,h=>by cases h
 | sz::szs,j,ty::tys,d::ds,k,h=>by
  have h2:=(zqk (k:=fun v w=>zvB P L t (j+1) szs tys ds fun vs ws=>k (v::vs) (w++ws)) h).1
  exact zql (k:=fun vs ws=>k ((zgr L (t+1000*(j+1)) sz d).1::vs) ((zgr L (t+1000*(j+1)) sz d).2++ws)) h2
theorem zrP {P:Program} {L:Loc} {t:Nat} {szs:List Nat} {ty:TypeId} {d:D} {k:V→Wr→Option R} (h:zAi P L t szs ty d k=some r):
  ∃ x,zri L t szs d=some x∧k x.1 x.2=some r:=by
 unfold zAi at h;split at h
 ·obtain ⟨h,hd⟩:=zqk h;refine ⟨_,?_,h⟩;unfold zri
  cases d<;>first | rfl | exact absurd rfl (hd _)
 ·obtain ⟨ds,e,h2⟩:=zud h;subst e;obtain ⟨e,h3⟩:=zrG h2;subst e;exact ⟨_,rfl,h3⟩
 ·split at h
  ·obtain ⟨ds,e,h2⟩:=zud h;subst e;have h:=zCQ h2;split at h
   ·rename_i hc
    have h:=zql (k:=fun vs w=>k (.tup vs) w) h
    exact ⟨_,by simp only [zri]; rw [if_pos hc],h⟩
   ·cases h
  ·cases h
theorem zy1 {nw:List Nat} {L:Loc} {pm:PM×Nat} {v:V} {k:D→List (Nat×Nat×Nat×Nat)→Wr→Option R} (h:zCJ nw L pm v k=some r):∃ x,zki nw L pm v=some x∧k x.1 x.2.1 x.2.2=some r:=by
 unfold zCJ at h;unfold zki;split at h
 ·obtain ⟨d,h1,h2⟩:=zuh h
  exact ⟨_,by simp only [h1]; rfl,h2⟩
 ·dsimp only;split at h
  ·rename_i g n off len;dsimp only;split at h
   ·rename_i sz' els e;split at h
    ·rename_i hc0;obtain ⟨hc,hk⟩:=zcL h
     exact ⟨_,by simp only [e]; exact if_pos ⟨hc.1,hc0.1,hc0.2,hc.2⟩,hk⟩
    ·cases h
   ·cases h
  ·exact ⟨_,rfl,h⟩
  ·exact ⟨_,rfl,h⟩
  ·cases h
 ·dsimp only;split at h
  ·rename_i g n off len;dsimp only;split at h
   ·rename_i sz' els e;split at h
    ·rename_i hc0;obtain ⟨hc,hk⟩:=zcL h
     exact ⟨_,by simp only [e]; exact if_pos ⟨hc.1,hc0.1,hc0.2,hc.2⟩,hk⟩
    ·cases h
   ·cases h
  ·cases h
theorem zrQ {nw:List Nat} {L:Loc}:∀ {vs:List V} {pms:List (PM×Nat)} {k:List D→List (Nat×Nat×Nat×Nat)→Wr→Option R},zCK nw L pms vs k=some r→∃ x,znO nw L pms vs=some x∧k x.1 x.2.1 x.2.2=some r
 | [],pms,k,h=>⟨([],[],[]),rfl,h⟩
 | v::vs,pms,k,h=>by
  obtain ⟨x,h1,h2⟩:=zy1 h
  obtain ⟨y,h3,h4⟩:=zrQ (k:=fun ds ms ws=>k (x.1::ds) (x.2.1++ms) (x.2.2++ws)) h2
  exact ⟨_,by rw [znO,h1]; dsimp only [Option.bind_some]; rw [h3]; rfl,h4⟩
theorem zuk:∀ {ms:List (Nat×Nat×Nat×Nat)} {os:List (List D)} {k:Wr→Option R},zGS ms os k=some r→∃ w,zj8 ms os=some w∧k w=some r
 | [],os,k,h=>by
  obtain ⟨e,h⟩:=zrG h
  subst e; exact ⟨_,rfl,h⟩
 | (g,n,sz,len)::ms,os,k,h=>by
  obtain ⟨els,os',e,h1⟩:=zuc h;subst e;obtain ⟨h2,h3⟩:=zaT h1
  obtain ⟨w,h4,h5⟩:=zuk (k:=fun w=>k ((g,(n,.arr sz els true))::w)) h3
  exact ⟨_,by rw [zj8,if_pos h2,h4]; rfl,h5⟩
theorem zBj {P:Program} {Γ:Env} {L:Loc} {t:Nat} {ty:TypeId} {f:V} {args:List V} {k:Out→Option R} (h:zGT P Γ L t ty f args k=some r):
  ∃ out,zBY Γ L t f args=some out∧k out=some r:=by
 unfold zGT at h;unfold zBY;split at h
 ·rename_i q a b e;rw [e];dsimp only;split at h
  ·rename_i szs F e2;rw [e2];obtain ⟨ds,h1,h2⟩:=zrN h;dsimp only;rw [h1];obtain ⟨x,h3,h4⟩:=zua h2;obtain ⟨y,h5,h6⟩:=zrP h4
   exact ⟨_,by dsimp only [Option.bind_some]; rw [h3]; dsimp only [Option.bind_some]; rw [h5]; rfl,h6⟩
  ·rename_i pms szs ks F e2;rw [e2];obtain ⟨⟨ds,ms,kl⟩,h1,h2⟩:=zrQ h;dsimp only at h2 ⊢;rw [h1];split at h2
   ·rename_i Ts e3;rw [e3];dsimp only;split at h2
    ·rename_i hc;obtain ⟨x,h3,h4⟩:=zua h2;obtain ⟨wo,h5,h6⟩:=zuk h4;obtain ⟨h7,h8⟩:=zpg h6;obtain ⟨y,h9,h10⟩:=zrP h8;refine ⟨_,?_,h10⟩;rw [if_pos hc,h3];dsimp only [Option.bind_some];rw [h5];dsimp only [Option.bind_some];rw [if_pos h7,h9];rfl
    ·cases h2
   ·cases h2
  ·cases h
 ·cases h
theorem zy2 {P:Program} {s f:Nat} {x:V} {k:V→Option R} (h:zCL P s f x k=some r):
  ∃ v,(match x,zs8 P s f,zjp P s f with
  | .d (.agg cs),some (off,size),some ag=>out ((zhe ag size off cs).map .d)
  | .agg ds ks vs,some (off,size),some ag=>out (znN ag size off ds ks vs)
  | _,_,_=>none)=some v∧k v.v=some r∧v={ v:=v.v }:=by
 unfold zCL at h;split at h
 ·rename_i h1 h2;obtain ⟨d,h3,h4⟩:=zha h
  exact ⟨{ v:=.d d },by simp [h1,h2,h3,out],h4,rfl⟩
 ·rename_i h1 h2
  try rw [h1,h2]
  try dsimp only
  unfold znN;split at h
  ·rename_i hag;obtain ⟨h3,h4⟩:=zaT h;rw [if_pos hag,if_pos h3];exact ⟨_,rfl,h4,rfl⟩
  ·rename_i hag;obtain ⟨h3,h4⟩:=zaT h;rw [if_neg hag,if_pos h3];split at h4
   ·rename_i e; rw [e]; exact ⟨_,rfl,h4,rfl⟩
   ·rename_i e; rw [e];obtain ⟨d,h5,h6⟩:=zcM h4
    exact ⟨{ v:=.d d },by simp [h5,out],h6,rfl⟩
 ·cases h
theorem zrR {P:Program} {L:Loc} {ty:TypeId} {m kx v:V} {k:Out→Option R}
  (h:(match zl9 P ty with
  | some (kk,_)=>match m,zwR kk kx with
   | .map g l,some n=>match L.get g l with
    | .map kk' es=>if kk'=kk then toDK L v fun x w=>if g∈w.map (·.1) then none else k { v:=.d (.tup []),wr:=w++[(g,(l,.map kk (setD n x es)))] } else none
    | _=>none
   | .vmap q l i o,some n=>match v,za6 L q with
    | .d x,some (true,T)=>zrH L kk q l i o fun es=>sif (x.flatEl=true) (letT (setT T i o (.mp .own kk (setD n x es))) fun T'=>k { v:=.d (.tup []),wr:=[(tb q,(l,.tbl true T'))] })
    | _,_=>none
   | _,_=>none
  | none=>none)=some r):∃ out,zf7 P L ty m kx v=some out∧k out=some r:=by
 unfold zf7;split at h
 ·rename_i kk et e;rw [e];split at h
  ·rename_i g l n e2;dsimp only;split at h
   ·rename_i kk' es e3;split at h
    ·rename_i hk;subst hk;obtain ⟨x,w,h1,h2⟩:=zn6 h;split at h2
     ·cases h2
     ·rename_i hg;refine ⟨_,?_,h2⟩;rw [e3,h1,e2];dsimp only;exact if_pos ⟨rfl,hg⟩
    ·cases h
   ·cases h
  ·rename_i q l i o n e2;dsimp only;split at h
   ·rename_i x T e3;obtain ⟨es,h1,h2⟩:=zqg h;obtain ⟨h3,h4⟩:=zaT h2;have hk:=ze4 h4;refine ⟨_,?_,hk⟩;rw [e3,h1,e2];dsimp only;exact if_pos ⟨rfl,h3⟩
   ·cases h
  ·cases h
 ·cases h
def zvD (P:Program) (L:Loc) (ty:TypeId) (op:BinOp) (a b:V):Option Out:=
 match zmV P ty with
 | some k=>if znQ k b=true then (match op with
  | .eql=>out ((zqD L k a).map fun r=>.d (.bool r))
  | .neq=>out ((zqD L k a).map fun r=>.d (.bool !r))
  | _=>none) else none
 | none=>match a,b with
  | .d a,.d b=>out ((abin (zrf P ty) op a b).map .d)
  | _,_=>none
theorem zGW {P:Program} {L:Loc} {ty:TypeId} {op:BinOp} {a b:V} {X:List D→List D→Option Out}:(∀ cs cs',a=.d (.agg cs)→b=.d (.agg cs')→False)→
  (match a,b with
  | .d (.agg a),.d (.agg b)=>X a b
  | a,b=>zvD P L ty op a b)=zvD P L ty op a b:=by
 intro hne;split
 ·exact (hne _ _ rfl rfl).elim
 ·rfl
theorem zBk {P:Program} {Γ:Env} {o:Oper} {ρ:Operand→V} {L:Loc} {k:Out→Option R} (h:zGU P Γ o ρ L k=some r):
  ∃ out,aop0 P Γ o ρ L=some out∧k out=some r:=by
 unfold zGU at h;dsimp only at h;split at h
 ·rename_i c a b e;unfold aop0; rw [e]; dsimp only;split at h
  ·rename_i b' hb;rw [hb];exact ⟨_,rfl,zvx h⟩
  ·cases h
 ·rename_i ty ps e;split at h
  ·exact zlW h
  ·rename_i hd;unfold aop0; rw [e]; dsimp only;obtain ⟨h1,h2⟩:=zqh h;unfold zzP;split at h2
   ·rename_i zs pl e1 e2;rw [e1,e2];dsimp only;rw [hd];dsimp only;split at h2
    ·rename_i x e3;refine ⟨_,?_,h2⟩
     have:((ps.toList.map fun (i,x)=>(i,(ρ x).unp)).all fun p=>zeF L p.2)=true:=by
      rw [List.all_map] at h1;exact h1
     rw [if_pos this,e3]; rfl
    ·cases h2
   ·cases h2
 ·rename_i ty n ps e;unfold aop0; rw [e]; dsimp only;obtain ⟨ds,w,h1,h2⟩:=zug h;split at h2
  ·rename_i sz h3;obtain ⟨hc,hk⟩:=zdS h2
   exact ⟨_,by unfold zjs; rw [h3,h1]; dsimp only; rw [if_pos hc],hk⟩
  ·cases h2
 ·rename_i ty x e;split at h
  ·exact zlW h
  ·exact zlW h
  ·rename_i hn1 hn2;split at h
   ·rename_i hone;obtain ⟨h1,h2⟩:=zhq h;unfold aop0; rw [e]; dsimp only;refine ⟨_,?_,h2⟩;generalize (ρ x).unp=v at*;have hc:v.one=true∧zeF L v=true:=⟨hone,h1⟩
    cases v<;>first | exact (hn1 _ rfl).elim | exact (hn2 _ _ _ rfl).elim | (dsimp only; rw [if_pos hc])
   ·cases h
 ·rename_i ty a e;unfold aop0; rw [e]; dsimp only;obtain ⟨v,h1,h2⟩:=zui h
  exact ⟨_,by rw [h1]; rfl,h2⟩
 ·rename_i ty a x e;unfold aop0; rw [e]; dsimp only;obtain ⟨h1,h2⟩:=zhq h;rw [if_pos h1];exact zyY (zCN h2)
 ·rename_i op ty x y z e;split at h
  ·exact zlW h
  ·rename_i hne
   have key:aop0 P Γ o ρ L=zvD P L ty op (ρ x) (ρ y):=by
    unfold aop0; rw [e];exact zGW hne
   rw [key];unfold zvD;split at h
   ·rename_i q e1
    try rw [e1]
    try dsimp only
    split at h
    ·rename_i hc;rw [if_pos hc];split at h
     ·obtain ⟨b,h1,h2⟩:=zuj h
      exact ⟨_,by (try dsimp only); rw [h1]; rfl,h2⟩
     ·obtain ⟨b,h1,h2⟩:=zuj h
      exact ⟨_,by (try dsimp only); rw [h1]; rfl,h2⟩
     ·cases h
    ·cases h
   ·rename_i e1
    try rw [e1]
    try dsimp only
    split at h
    ·rename_i a b e2 e3
     try rw [e2,e3]
     obtain ⟨d,h1,h2⟩:=zCP h
     exact ⟨_,by (try dsimp only); rw [h1]; rfl,h2⟩
    ·cases h
 ·rename_i src dst x e;unfold aop0; rw [e]; dsimp only;split at h
  ·rename_i kk n e3;rw [e3];split at h
   ·rename_i s q e1 e2;rw [zam] at h
    exact ⟨_,by dsimp only; rw [e1,e2],h⟩
   ·cases h
  ·rename_i hni;split at h
   ·rename_i hc;obtain ⟨l,h1,h2⟩:=ziS h;obtain ⟨h3,h4⟩:=zaT h2;refine ⟨_,?_,h4⟩;split
    ·rename_i e3; exact (hni _ _ e3).elim
    ·rw [if_pos hc,h1]; exact if_pos h3
   ·rename_i hc;split at h
    ·rename_i hc2;obtain ⟨o,h1,h2⟩:=zy0 h;refine ⟨_,?_,h2⟩;split
     ·rename_i e3; exact (hni _ _ e3).elim
     ·rw [if_neg hc,if_pos hc2]; exact h1
    ·cases h
 ·rename_i ty n c e;unfold aop0; rw [e]; dsimp only;unfold zlN;split at h
  ·rename_i et n' c' e1 e2 e3;rw [e1,e2,e3];dsimp only;split at h
   ·rename_i z sz i z1 z2 z3;rw [z1,z2,z3];obtain ⟨hc,hk⟩:=zn4 h
    exact ⟨_,by dsimp only; rw [if_pos hc],hk⟩
   ·cases h
  ·cases h
 ·rename_i ty x lo hi mx e;unfold aop0; rw [e]; dsimp only;obtain ⟨v,h1,h2⟩:=zyZ h
  exact ⟨_,by rw [h1]; rfl,h2⟩
 ·rename_i s x f e;unfold aop0; rw [e]; dsimp only;obtain ⟨h1,h2⟩:=zjz h;obtain ⟨v,h3,h4⟩:=zCM h2;rw [if_pos h1,h3];exact ⟨_,rfl,h4⟩
 ·rename_i s x f e;unfold aop0; rw [e]; dsimp only;obtain ⟨v,h1,h2,h3⟩:=zy2 h;refine ⟨v,h1,?_⟩;rw [h3]; exact h2
 ·rename_i ty x i e;unfold aop0; rw [e]; dsimp only;obtain ⟨hp,h0⟩:=zjz h;rw [if_pos hp];obtain ⟨v,h1,h2⟩:=zrO h0
  exact ⟨_,by rw [h1]; rfl,h2⟩
 ·rename_i ty x i e;unfold aop0; rw [e]; dsimp only;split at h
  ·rename_i cs kk n e1 e2;rw [e1,e2];dsimp only;split at h
   ·rename_i q sz ag e3;rw [e3];obtain ⟨hc,h1⟩:=zcL h;obtain ⟨d,h2,h3⟩:=zha h1
    exact ⟨_,by dsimp only; rw [if_pos hc,h2]; rfl,h3⟩
   ·cases h
  ·cases h
 ·rename_i ty m x ok e;unfold aop0; rw [e]; dsimp only;unfold zu5;split at h
  ·rename_i kk et e1;rw [e1];split at h
   ·rename_i z n e5 e6;obtain ⟨es,h1,h2⟩:=zAj h;rw [h1];dsimp only;rw [e5,e6];dsimp only;have h:=zeq h2;simp only [zBe,hasD] at h;rw [if_pos rfl]
    cases hf:ziI n es with
    | some y=>rw [hf] at h; exact ⟨_,rfl,h⟩
    | none=>rw [hf] at h; exact ⟨_,rfl,h⟩
   ·cases h
  ·cases h
 ·rename_i ty m kx v e
  have hred:aop0 P Γ o ρ L=zf7 P L ty (ρ m) (ρ kx) (ρ v).unp:=by unfold aop0; rw [e]
  rw [hred];exact zrR h
 ·rename_i ty m kx v e
  have hred:aop0 P Γ o ρ L=zf7 P L ty (ρ m) (ρ kx) (ρ v).unp:=by unfold aop0; rw [e]
  rw [hred];exact zrR h
 ·rename_i x e;split at h
  ·rename_i q y e1;obtain ⟨i,h1,h2⟩:=zn5 h;subst h1;unfold aop0; rw [e]; dsimp only;rw [e1]
   exact ⟨_,by dsimp only; rw [if_pos ⟨rfl,rfl⟩],h2⟩
  ·rename_i g n i j e1;obtain ⟨h1,h2⟩:=zjz h;unfold aop0; rw [e]; dsimp only;rw [e1]
   exact ⟨_,by dsimp only; rw [if_pos h1],h2⟩
  ·rename_i e1;obtain ⟨h1,h2⟩:=zjz h;unfold aop0; rw [e]; dsimp only;rw [e1]
   exact ⟨_,by dsimp only; rw [if_pos h1],h2⟩
  ·exact zlW h
 ·rename_i args argTypes _ e;unfold aop0; rw [e]; dsimp only;split at h
  ·rename_i x ty e1 e2;rw [e1,e2];dsimp only;split at h
   ·rename_i kk et e3;obtain ⟨es,h1,h2⟩:=zAj h;refine ⟨_,?_,h2⟩
    have:alen P L ty (ρ x)=some es.length:=by
     have hs:(zl9 P ty).isSome=true:=by rw [e3]; rfl
     generalize ρ x=v at*;unfold alen;split
     ·cases h1
     ·rw [if_pos hs,h1]; rfl
     ·rw [if_pos hs,h1]; rfl
     ·rw [if_pos hs,h1]; rfl
     ·rename_i n1 n2 n3 n4;exfalso
      cases v with
      | d d=>cases d<;>first | exact n2 _ _ _ rfl | cases h1
      | map g n=>exact n3 _ _ rfl
      | vmap q n i o=>exact n4 _ _ _ _ rfl
      | _=>cases h1
    rw [this]; rfl
   ·split at h
    ·rename_i s e3;rw [e3];split at h
     ·rename_i hs
      exact ⟨_,by simp [alen,hs],h⟩
     ·cases h
    ·rename_i hns;split at h
     ·rename_i hs;obtain ⟨n,h1,h2⟩:=zrL h;refine ⟨_,?_,h2⟩
      have:alen P L ty (ρ x)=some n:=by
       generalize ρ x=v at*;unfold alen;split
       ·exact (hns _ rfl).elim
       ·cases h1
       ·cases h1
       ·cases h1
       ·rw [if_pos hs]; exact h1
      rw [this]; rfl
     ·cases h
  ·cases h
 ·rename_i args _ _ e;unfold aop0; rw [e]; dsimp only;split at h
  ·rename_i a b e1;rw [zam] at h;rw [e1]; exact ⟨_,rfl,h⟩
  ·cases h
 ·rename_i args _ _ e;unfold aop0; rw [e]; dsimp only;split at h
  ·rename_i a b e1;rw [zam] at h;rw [e1]; exact ⟨_,rfl,h⟩
  ·cases h
 ·rename_i args argTypes _ e;unfold aop0; rw [e]; dsimp only;split at h
  ·rename_i s x ty ty2 e1 e2;rw [e1,e2];dsimp only;split at h
   ·rename_i hs;rw [if_pos hs];exact zxB h
   ·rename_i hs;split at h
    ·rename_i hs2;rw [if_neg hs,if_pos hs2];split at h
     ·rename_i m em;rw [em];exact zvC h
     ·cases h
    ·cases h
  ·cases h
 ·rename_i args argTypes _ e;unfold aop0; rw [e]; dsimp only;split at h
  ·rename_i s x ty tys e1 e2;rw [e1,e2];exact zBg h
  ·cases h
 ·rename_i f args _ e;unfold aop0; rw [e]; dsimp only;exact zBj h
 ·rename_i arr x e;unfold aop0; rw [e]; dsimp only;split at h
  ·rename_i t l e1;rw [e1];dsimp only;split at h
   ·rename_i n et e2;obtain ⟨hc,hk⟩:=zcF h;rw [e2];exact ⟨_,if_pos hc,hk⟩
   ·cases h
  ·cases h
 ·exact zlW h
theorem zCR {P:Program} {Γ:Env} {o:Oper} {ρ:Operand→V} {L:Loc} {k:Out→Option R} (h:aopK P Γ o ρ L k=some r):
  ∃ out,aop P Γ o ρ L=some out∧k out=some r:=by
 unfold aopK at h;obtain ⟨out,h1,h2⟩:=zBk h
 exact ⟨_,by unfold aop; rw [h1]; rfl,h2⟩
end
end Wf

namespace Wf
open Go Go.RowKit
inductive SS where
 | dead
 | val (s:Sh)
 | own (sz:Nat)
 | box (ag:Bool) (ls:List Lf)
 | map (k:MK)
 | same (j:Nat)
 | fnc (f:FuncId)
 | ptr (k:Nat)
 | view (k o:Nat)
 | vmp (k o:Nat)
 | vbx (ag:Bool) (ls:List Lf) (k sz:Nat)
 deriving DecidableEq,Inhabited
@[reducible] def SST:List SS→Type
 | []=>Unit
 | .dead::r=>SST r
 | .val s::r=>s.T×SST r
 | .own _::r=>List D×SST r
 | .box _ ls::r=>LfT ls×SST r
 | .map _::r=>List (Int×D)×SST r
 | .same _::r=>SST r
 | .fnc _::r=>SST r
 | .ptr _::r=>D×SST r
 | .view _ _::r=>(Nat×Nat×Nat)×SST r
 | .vmp _ _::r=>Nat×SST r
 | .vbx _ ls _ _::r=>(LfT ls×List D)×SST r
@[reducible] def TbT:List (Nat×Bool)→Type
 | []=>Unit
 | _::r=>Tb×TbT r
def base:Nat:=50000
def zct:Nat:=70000
def zkR:(i j:Nat)→(ss:List SS)→SST ss→V
 | _,_,[],_=>.d .undef
 | i,j,.dead::r,x=>zkR (i+1) j r x
 | i,j,.same _::r,x=>zkR (i+1) j r x
 | i,j,.fnc _::r,x=>zkR (i+1) j r x
 | i,j,.val _::r,x=>zkR (i+1) j r x.2
 | i,j,.map _::r,x=>zkR (i+1) j r x.2
 | i,j,.ptr _::r,x=>zkR (i+1) j r x.2
 | i,j,.view _ _::r,x=>zkR (i+1) j r x.2
 | i,j,.vmp _ _::r,x=>zkR (i+1) j r x.2
 | i,j,.vbx _ _ _ _::r,x=>zkR (i+1) j r x.2
 | i,j,.box _ _::r,x=>if i=j then .ptr (base+i) 1 0 else zkR (i+1) j r x.2
 | i,j,.own _::r,x=>if i=j then .ref (base+i) 1 0 x.1.length else zkR (i+1) j r x.2
def zce (sj:Nat→V):(i:Nat)→(ss:List SS)→SST ss→List (V×HObj)
 | _,[],_=>[]
 | i,.dead::r,x=>(.d .undef,.dead)::zce sj (i+1) r x
 | i,.val s::r,x=>(.d (s.mk x.1),.dead)::zce sj (i+1) r x.2
 | i,.own sz::r,x=>(.ref (base+i) 1 0 x.1.length,.arr sz x.1 true)::zce sj (i+1) r x.2
 | i,.box ag ls::r,x=>(.ptr (base+i) 1 0,.box ag (zho ls x.1))::zce sj (i+1) r x.2
 | i,.map kk::r,x=>(.map (base+i) 1,.map kk x.1)::zce sj (i+1) r x.2
 | i,.same j::r,x=>(sj j,.dead)::zce sj (i+1) r x
 | i,.fnc f::r,x=>(.clo f [] [],.dead)::zce sj (i+1) r x
 | i,.ptr k::r,x=>(.p k x.1,.dead)::zce sj (i+1) r x.2
 | i,.view k o::r,x=>(.vref k 1 x.1.1 o x.1.2.1 x.1.2.2,.dead)::zce sj (i+1) r x.2
 | i,.vmp k o::r,x=>(.vmap k 1 x.1 o,.dead)::zce sj (i+1) r x.2
 | i,.vbx ag ls k sz::r,x=>(.ptr (base+i) 1 0,.vbox ag (zho ls x.1.1) [k] [.ref (zct+i) 1 0 x.1.2.length])::zce sj (i+1) r x.2
def ziT:(ss:List SS)→SST ss→List HObj
 | [],_=>[]
 | .dead::r,x=>.dead::ziT r x
 | .val _::r,x=>.dead::ziT r x.2
 | .own _::r,x=>.dead::ziT r x.2
 | .box _ _::r,x=>.dead::ziT r x.2
 | .map _::r,x=>.dead::ziT r x.2
 | .same _::r,x=>.dead::ziT r x
 | .fnc _::r,x=>.dead::ziT r x
 | .ptr _::r,x=>.dead::ziT r x.2
 | .view _ _::r,x=>.dead::ziT r x.2
 | .vmp _ _::r,x=>.dead::ziT r x.2
 | .vbx _ _ _ sz::r,x=>.arr sz x.1.2 true::ziT r x.2
def zin (es:List (V×HObj)) (fs:List HObj):Loc:=fun g=>
 if base≤g∧g < zct then (match es[g - base]? with
 | some (_,.dead)=>(0,.dead)
 | some (_,o)=>(1,o)
 | none=>(0,.dead))
 else if zct≤g∧g < 90000 then (match fs[g - zct]? with
 | some .dead=>(0,.dead)
 | some o=>(1,o)
 | none=>(0,.dead)) else (0,.dead)
def zqm (L:Loc):(tks:List (Nat×Bool))→TbT tks→Loc
 | [],_=>L
 | (k,w)::r,Ts=>(zqm L r Ts.2).set (tb k) (1,.tbl w Ts.1)
def stOf (es:List (V×HObj)) (fs:List HObj) (n:Nat) (tks:List (Nat×Bool)) (Ts:TbT tks):St:={ slots:=es.map (·.1)++List.replicate (n - es.length) (.d .undef),L:=zqm (zin es fs) tks Ts }
def SSJ (tks:List (Nat×Bool)) (ss:List SS) (n:Nat) (x:SST ss) (Ts:TbT tks):St:=stOf (zce (fun j=>zkR 0 j ss x) 0 ss x) (ziT ss x) n tks Ts
section
variable {R:Type}
def coGo (tq:List Nat) (L:Loc) (all:List V) (sh:List SS):(ss:List SS)→List V→(SST ss→List (Option Nat)→List (Option Nat)→Option R)→Option R
 | [],_,k=>k () [] []
 | .dead::r,_::vs,k=>coGo tq L all sh r vs fun x ks qs=>k x (none::ks) (none::qs)
 | .val s::r,v::vs,k=>match v with
  | .d d=>s.get d fun y=>coGo tq L all sh r vs fun x ks qs=>k (y,x) (none::ks) (none::qs)
  | _=>none
 | .own sz::r,v::vs,k=>match v with
  | .ref g n off len=>match off,L.get g n with
   | 0,.arr sz' els true=>if sz'=sz∧g < 90000 then sif (len=els.length) (coGo tq L all sh r vs fun x ks qs=>k (els,x) (some g::ks) (none::qs)) else none
   | _,_=>none
  | .d (.sl .full [])=>coGo tq L all sh r vs fun x ks qs=>k ([],x) (none::ks) (none::qs)
  | .d (.sl .nil [])=>coGo tq L all sh r vs fun x ks qs=>k ([],x) (none::ks) (none::qs)
  | _=>none
 | .box ag ls::r,v::vs,k=>match v with
  | .ptr g n off=>match off,L.get g n with
   | 0,.box ag' ds=>if ag'=ag∧g < 90000 then zaz ls ds fun y=>coGo tq L all sh r vs fun x ks qs=>k (y,x) (some g::ks) (none::qs) else none
   | _,_=>none
  | _=>none
 | .map kk::r,v::vs,k=>match v with
  | .map g n=>match L.get g n with
   | .map kk' es=>if kk'=kk∧g < 90000 then coGo tq L all sh r vs fun x ks qs=>k (es,x) (some g::ks) (none::qs) else none
   | _=>none
  | _=>none
 | .same j::r,v::vs,k=>match v,all[j]?,sh[j]? with
  | .ref g n off len,some (.ref g' n' off' len'),some (.own _)=>if g'=g∧n'=n∧off'=off then sif (len'=len) (coGo tq L all sh r vs fun x ks qs=>k x (none::ks) (none::qs)) else none
  | .ptr g n off,some (.ptr g' n' off'),some (.box _ _)=>if g'=g∧n'=n∧off'=off then coGo tq L all sh r vs fun x ks qs=>k x (none::ks) (none::qs) else none
  | _,_,_=>none
 | .fnc f::r,v::vs,k=>match v with
  | .clo f' [] []=>if f'=f then coGo tq L all sh r vs fun x ks qs=>k x (none::ks) (none::qs) else none
  | .d (.fn f' [] [])=>if f'=f then coGo tq L all sh r vs fun x ks qs=>k x (none::ks) (none::qs) else none
  | _=>none
 | .ptr _::r,v::vs,k=>match v with
  | .p _ y=>coGo tq L all sh r vs fun x ks qs=>k (y,x) (none::ks) (none::qs)
  | .d y=>coGo tq L all sh r vs fun x ks qs=>k (y,x) (none::ks) (none::qs)
  | _=>none
 | .view q o::r,v::vs,k=>match v with
  | .vref q' n i o' lo len=>if q'=q∧o'=o∧n=(L (tb q)).1∧q∈tq then coGo tq L all sh r vs fun x ks qs=>k ((i,lo,len),x) (none::ks) (none::qs) else none
  | _=>none
 | .vmp q o::r,v::vs,k=>match v with
  | .vmap q' n i o'=>if q'=q∧o'=o∧n=(L (tb q)).1∧q∈tq then coGo tq L all sh r vs fun x ks qs=>k (i,x) (none::ks) (none::qs) else none
  | _=>none
 | .vbx ag ls o sz::r,v::vs,k=>match v with
  | .ptr g n off=>match off,L.get g n with
   | 0,.vbox ag' ds [o'] [.ref g2 n2 off2 len]=>match off2,L.get g2 n2 with
    | 0,.arr sz' els true=>if ag'=ag∧o'=o∧sz'=sz∧g < 90000∧g2 < 90000 then sif (len=els.length) (zaz ls (ds.set o (.sl .nil [])) fun y=>coGo tq L all sh r vs fun x ks qs=>k ((y,els),x) (some g::ks) (some g2::qs)) else none
    | _,_=>none
   | 0,.box ag' ds=>if ag'=ag∧g < 90000 then (match ds[o]? with
    | some (.sl .nil [])=>zaz ls (ds.set o (.sl .nil [])) fun y=>coGo tq L all sh r vs fun x ks qs=>k ((y,[]),x) (some g::ks) (none::qs)
    | some (.sl .full [])=>zaz ls (ds.set o (.sl .nil [])) fun y=>coGo tq L all sh r vs fun x ks qs=>k ((y,[]),x) (some g::ks) (none::qs)
    | _=>none) else none
   | _,_=>none
  | _=>none
 | _::_,[],_=>none
def zEH (L:Loc):(tks:List (Nat×Bool))→(TbT tks→Option R)→Option R
 | [],k=>k ()
 | (q,w)::r,k=>match za6 L q with
  | some (w',T)=>if w'=w then zEH L r fun Ts=>k (T,Ts) else none
  | none=>none
def co (tks:List (Nat×Bool)) (ss:List SS) (s:St) (k:SST ss→TbT tks→Option R):Option R:=
 if ss.length≤s.slots.length∧ss.length≤1000∧(tks.map (·.1)).Nodup then coGo (tks.map (·.1)) s.L s.slots ss ss s.slots fun x ks qs=>if zh8 (ks++qs) then zEH s.L tks fun Ts=>k x Ts else none else none
end
inductive Ext (tq:List Nat) (L:Loc) (all:List V) (sh:List SS) (sj:Nat→V) (id:Nat):V→Option Nat→V→HObj→Option Nat→HObj→Prop where
 | drop (v):Ext tq L all sh sj id v none (.d .undef) .dead none .dead
 | keep (d):Ext tq L all sh sj id (.d d) none (.d d) .dead none .dead
 | own (g n sz els):g < 90000→L.get g n=.arr sz els true→Ext tq L all sh sj id (.ref g n 0 els.length) (some g) (.ref id 1 0 els.length) (.arr sz els true) none .dead
 | nil (sz t):(t=.full∨t=.nil)→Ext tq L all sh sj id (.d (.sl t [])) none (.ref id 1 0 0) (.arr sz [] true) none .dead
 | box (g n ag ds):g < 90000→L.get g n=.box ag ds→Ext tq L all sh sj id (.ptr g n 0) (some g) (.ptr id 1 0) (.box ag ds) none .dead
 | map (g n kk es):g < 90000→L.get g n=.map kk es→Ext tq L all sh sj id (.map g n) (some g) (.map id 1) (.map kk es) none .dead
 | sameR (j g n off len):all[j]? =some (.ref g n off len)→(∃ z,sh[j]? =some (.own z))→Ext tq L all sh sj id (.ref g n off len) none (sj j) .dead none .dead
 | sameP (j g n off):all[j]? =some (.ptr g n off)→(∃ a l,sh[j]? =some (.box a l))→Ext tq L all sh sj id (.ptr g n off) none (sj j) .dead none .dead
 | ptr (k y v):((∃ k',v=.p k' y)∨v=.d y)→Ext tq L all sh sj id v none (.p k y) .dead none .dead
 | view (q n i o lo len):n=(L (tb q)).1→q∈tq→Ext tq L all sh sj id (.vref q n i o lo len) none (.vref q 1 i o lo len) .dead none .dead
 | vmp (q n i o):n=(L (tb q)).1→q∈tq→Ext tq L all sh sj id (.vmap q n i o) none (.vmap q 1 i o) .dead none .dead
 | vbx (g n ag ds o g2 n2 sz els):g < 90000→g2 < 90000→L.get g n=.vbox ag ds [o] [.ref g2 n2 0 els.length]→L.get g2 n2=.arr sz els true→
   Ext tq L all sh sj id (.ptr g n 0) (some g) (.ptr id 1 0) (.vbox ag (ds.set o (.sl .nil [])) [o] [.ref (id+20000) 1 0 els.length]) (some g2) (.arr sz els true)
 | vbx0 (g n ag ds o sz t):(t=.full∨t=.nil)→g < 90000→L.get g n=.box ag ds→ds[o]? =some (.sl t [])→
   Ext tq L all sh sj id (.ptr g n 0) (some g) (.ptr id 1 0) (.vbox ag (ds.set o (.sl .nil [])) [o] [.ref (id+20000) 1 0 0]) none (.arr sz [] true)
 | clo (f v):(v=.clo f [] []∨v=.d (.fn f [] []))→Ext tq L all sh sj id v none (.clo f [] []) .dead none .dead
theorem getE {α:Type} {a:α} {l:List α} {i:Nat}:(a::l)[i+1]? =l[i]? :=by simp
theorem zc2 {sj:Nat→V}:∀ (ss:List SS) (i:Nat) (x:SST ss),(zce sj i ss x).length=ss.length
 | [],_,_=>rfl
 | .dead::r,i,x=>by simp only [zce,List.length_cons,zc2 r (i+1) x]
 | .val s::r,i,x=>by simp only [zce,List.length_cons,zc2 r (i+1) x.2]
 | .own sz::r,i,x=>by simp only [zce,List.length_cons,zc2 r (i+1) x.2]
 | .box ag ls::r,i,x=>by simp only [zce,List.length_cons,zc2 r (i+1) x.2]
 | .map kk::r,i,x=>by simp only [zce,List.length_cons,zc2 r (i+1) x.2]
 | .same j::r,i,x=>by simp only [zce,List.length_cons,zc2 r (i+1) x]
 | .fnc f::r,i,x=>by simp only [zce,List.length_cons,zc2 r (i+1) x]
 | .ptr k::r,i,x=>by simp only [zce,List.length_cons,zc2 r (i+1) x.2]
 | .view k o::r,i,x=>by simp only [zce,List.length_cons,zc2 r (i+1) x.2]
 | .vmp k o::r,i,x=>by simp only [zce,List.length_cons,zc2 r (i+1) x.2]
 | .vbx ag ls k sz::r,i,x=>by simp only [zce,List.length_cons,zc2 r (i+1) x.2]
theorem zd7:∀ (ss:List SS) (x:SST ss),(ziT ss x).length=ss.length
 | [],_=>rfl
 | .dead::r,x=>congrArg (· +1) (zd7 r x)
 | .val _::r,x=>congrArg (· +1) (zd7 r x.2)
 | .own _::r,x=>congrArg (· +1) (zd7 r x.2)
 | .box _ _::r,x=>congrArg (· +1) (zd7 r x.2)
 | .map _::r,x=>congrArg (· +1) (zd7 r x.2)
 | .same _::r,x=>congrArg (· +1) (zd7 r x)
 | .fnc _::r,x=>congrArg (· +1) (zd7 r x)
 | .ptr _::r,x=>congrArg (· +1) (zd7 r x.2)
 | .view _ _::r,x=>congrArg (· +1) (zd7 r x.2)
 | .vmp _ _::r,x=>congrArg (· +1) (zd7 r x.2)
 | .vbx _ _ _ _::r,x=>congrArg (· +1) (zd7 r x.2)
theorem zpj {sj:Nat→V}:∀ (ss:List SS) (i j:Nat) (x:SST ss),((∃ z,ss[j]? =some (.own z))∨∃ a l,ss[j]? =some (.box a l))→
  ∃ e,(zce sj i ss x)[j]? =some e∧e.2≠.dead∧e.1=zkR i (i+j) ss x
 | [],i,j,x,h=>by simp at h
 | sh::r,i,0,x,h=>by
  rcases h with ⟨z,h⟩ | ⟨a,l,h⟩<;>injection h with h<;>subst h
  ·exact ⟨_,rfl,by simp,by simp [zkR]⟩
  ·exact ⟨_,rfl,by simp,by simp [zkR]⟩
 | sh::r,i,j+1,x,h=>by
  have hij:i+(j+1)=(i+1)+j:=by omega
  have hne:i≠i+(j+1):=by omega
  simp only [getE] at h;cases sh<;>simp only [zce,getE,zkR,if_neg hne]<;>rw [hij]<;>exact zpj r (i+1) j _ h
section
variable {R:Type} {r:R} {tq:List Nat} {L:Loc} {all:List V} {sh:List SS} {sj:Nat→V}
theorem zcG:∀ (ss:List SS) (i:Nat) (vs:List V) (k:SST ss→List (Option Nat)→List (Option Nat)→Option R),ss.length≤vs.length→coGo tq L all sh ss vs k=some r→
  ∃ x ks qs,k x ks qs=some r∧(ks.length=ss.length∧qs.length=ss.length)∧∀ sj:(Nat→V),∀ (j:Nat) (v:V),vs[j]? =some v→j < ss.length→∃ e q q2 o2,(zce sj i ss x)[j]? =some e∧ks[j]? =some q∧qs[j]? =some q2∧(ziT ss x)[j]? =some o2∧Ext tq L all sh sj (base+(i+j)) v q e.1 e.2 q2 o2
 | [],i,vs,k,_,h=>⟨(),[],[],h,⟨rfl,rfl⟩,fun sj j v _ hj=>absurd hj (by simp)⟩
 | _::_,i,[],k,hl,_=>absurd hl (by simp)
 | sh0::ss,i,v::vs,k,hl,h=>by
  have hl':ss.length≤vs.length:=by simpa using hl
  have step:∀ {x':SST ss} {ks qs:List (Option Nat)} {x:SST (sh0::ss)} {q q2:Option Nat} {o2:HObj} {e:(Nat→V)→V×HObj},(ks.length=ss.length∧qs.length=ss.length)→
    (∀ sj:(Nat→V),∀ (j:Nat) (v:V),vs[j]? =some v→j < ss.length→∃ e q q2 o2,(zce sj (i+1) ss x')[j]? =some e∧ks[j]? =some q∧qs[j]? =some q2∧(ziT ss x')[j]? =some o2∧Ext tq L all sh sj (base+(i+1+j)) v q e.1 e.2 q2 o2)→
    (∀ sj,zce sj i (sh0::ss) x=e sj::zce sj (i+1) ss x')→ziT (sh0::ss) x=o2::ziT ss x'→(∀ sj,Ext tq L all sh sj (base+i) v q (e sj).1 (e sj).2 q2 o2)→
    ((q::ks).length=(sh0::ss).length∧(q2::qs).length=(sh0::ss).length)∧∀ sj:(Nat→V),∀ (j:Nat) (w:V),(v::vs)[j]? =some w→j < (sh0::ss).length→
     ∃ e q' q2' o2',(zce sj i (sh0::ss) x)[j]? =some e∧(q::ks)[j]? =some q'∧(q2::qs)[j]? =some q2'∧(ziT (sh0::ss) x)[j]? =some o2'∧Ext tq L all sh sj (base+(i+j)) w q' e.1 e.2 q2' o2':=by
   intro x' ks qs x q q2 o2 e h1 h2 h3 h3' h4
   refine ⟨by simp [h1.1,h1.2],fun sj j w hw hj=>?_⟩
   rw [h3,h3']
   cases j with
   | zero=>simp at hw; subst hw; exact ⟨_,_,_,_,rfl,rfl,rfl,rfl,h4 sj⟩
   | succ j=>
    simp only [getE] at hw
    obtain ⟨e',q',q2',o2',k1,k2,k3,k4,k5⟩:=h2 sj j w hw (by simpa using hj)
    exact ⟨e',q',q2',o2',by simpa using k1,by simpa using k2,by simpa using k3,by simpa using k4,by rw [show i+(j+1)=i+1+j by omega]; exact k5⟩
  cases sh0 with
  | dead=>
   obtain ⟨x,ks,qs,h1,h2,h3⟩:=zcG ss (i+1) vs (fun x ks qs=>k x (none::ks) (none::qs)) hl' h
   exact ⟨x,none::ks,none::qs,h1,step (e:=fun _=>(.d .undef,.dead)) h2 h3 (fun _=>rfl) rfl (fun _=>.drop _)⟩
  | val s=>
   simp only [coGo] at h;split at h
   ·rename_i d;obtain ⟨y,e,h⟩:=Sh.get_some h
    obtain ⟨x,ks,qs,h1,h2,h3⟩:=zcG ss (i+1) vs (fun x ks qs=>k (y,x) (none::ks) (none::qs)) hl' h
    subst e
    exact ⟨(y,x),none::ks,none::qs,h1,step (e:=fun _=>(.d (s.mk y),.dead)) h2 h3 (fun _=>rfl) rfl (fun _=>.keep _)⟩
   ·cases h
  | own sz=>
   simp only [coGo] at h;split at h
   ·rename_i g n off len;split at h
    ·rename_i sz' els hL;split at h
     ·rename_i hsz;obtain ⟨hsz,hg⟩:=hsz; subst hsz;obtain ⟨hlen,h4⟩:=zaT h;subst hlen
      obtain ⟨x,ks,qs,h1,h2,h3⟩:=zcG ss (i+1) vs (fun x ks qs=>k (els,x) (some g::ks) (none::qs)) hl' h4
      exact ⟨(els,x),some g::ks,none::qs,h1,step (e:=fun _=>(.ref (base+i) 1 0 els.length,.arr sz' els true)) h2 h3 (fun _=>rfl) rfl (fun _=>.own _ _ _ _ hg hL)⟩
     ·cases h
    ·cases h
   ·obtain ⟨x,ks,qs,h1,h2,h3⟩:=zcG ss (i+1) vs (fun x ks qs=>k ([],x) (none::ks) (none::qs)) hl' h
    exact ⟨([],x),none::ks,none::qs,h1,step (e:=fun _=>(.ref (base+i) 1 0 0,.arr sz [] true)) h2 h3 (fun _=>rfl) rfl (fun _=>.nil _ _ (.inl rfl))⟩
   ·obtain ⟨x,ks,qs,h1,h2,h3⟩:=zcG ss (i+1) vs (fun x ks qs=>k ([],x) (none::ks) (none::qs)) hl' h
    exact ⟨([],x),none::ks,none::qs,h1,step (e:=fun _=>(.ref (base+i) 1 0 0,.arr sz [] true)) h2 h3 (fun _=>rfl) rfl (fun _=>.nil _ _ (.inr rfl))⟩
   ·cases h
  | box ag ls=>
   simp only [coGo] at h;split at h
   ·rename_i g n off;split at h
    ·rename_i ag' ds hL;split at h
     ·rename_i hag;obtain ⟨hag,hg⟩:=hag; subst hag;obtain ⟨y,e,h⟩:=zeI h
      obtain ⟨x,ks,qs,h1,h2,h3⟩:=zcG ss (i+1) vs (fun x ks qs=>k (y,x) (some g::ks) (none::qs)) hl' h
      subst e
      exact ⟨(y,x),some g::ks,none::qs,h1,step (e:=fun _=>(.ptr (base+i) 1 0,.box ag' (zho ls y))) h2 h3 (fun _=>rfl) rfl (fun _=>.box _ _ _ _ hg hL)⟩
     ·cases h
    ·cases h
   ·cases h
  | map kk=>
   simp only [coGo] at h;split at h
   ·rename_i g n;split at h
    ·rename_i kk' es hL;split at h
     ·rename_i hk;obtain ⟨hk,hg⟩:=hk; subst hk
      obtain ⟨x,ks,qs,h1,h2,h3⟩:=zcG ss (i+1) vs (fun x ks qs=>k (es,x) (some g::ks) (none::qs)) hl' h
      exact ⟨(es,x),some g::ks,none::qs,h1,step (e:=fun _=>(.map (base+i) 1,.map kk' es)) h2 h3 (fun _=>rfl) rfl (fun _=>.map _ _ _ _ hg hL)⟩
     ·cases h
    ·cases h
   ·cases h
  | same j=>
   simp only [coGo] at h;split at h
   ·rename_i g n off len g' n' off' len' z e1 e2;split at h
    ·rename_i hc;obtain ⟨rfl,rfl,rfl⟩:=hc;obtain ⟨hlen,h4⟩:=zaT h;subst hlen
     obtain ⟨x,ks,qs,h1,h2,h3⟩:=zcG ss (i+1) vs (fun x ks qs=>k x (none::ks) (none::qs)) hl' h4
     exact ⟨x,none::ks,none::qs,h1,step (e:=fun sj=>(sj j,.dead)) h2 h3 (fun _=>rfl) rfl (fun _=>.sameR _ _ _ _ _ e1 ⟨_,e2⟩)⟩
    ·cases h
   ·rename_i g n off g' n' off' a l e1 e2;split at h
    ·rename_i hc;obtain ⟨rfl,rfl,rfl⟩:=hc
     obtain ⟨x,ks,qs,h1,h2,h3⟩:=zcG ss (i+1) vs (fun x ks qs=>k x (none::ks) (none::qs)) hl' h
     exact ⟨x,none::ks,none::qs,h1,step (e:=fun sj=>(sj j,.dead)) h2 h3 (fun _=>rfl) rfl (fun _=>.sameP _ _ _ _ e1 ⟨_,_,e2⟩)⟩
    ·cases h
   ·cases h
  | fnc f=>
   simp only [coGo] at h;split at h
   ·split at h
    ·rename_i hf; subst hf
     obtain ⟨x,ks,qs,h1,h2,h3⟩:=zcG ss (i+1) vs (fun x ks qs=>k x (none::ks) (none::qs)) hl' h
     exact ⟨x,none::ks,none::qs,h1,step (e:=fun _=>(.clo _ [] [],.dead)) h2 h3 (fun _=>rfl) rfl (fun _=>.clo _ _ (.inl rfl))⟩
    ·cases h
   ·split at h
    ·rename_i hf; subst hf
     obtain ⟨x,ks,qs,h1,h2,h3⟩:=zcG ss (i+1) vs (fun x ks qs=>k x (none::ks) (none::qs)) hl' h
     exact ⟨x,none::ks,none::qs,h1,step (e:=fun _=>(.clo _ [] [],.dead)) h2 h3 (fun _=>rfl) rfl (fun _=>.clo _ _ (.inr rfl))⟩
    ·cases h
   ·cases h
  | ptr q=>
   simp only [coGo] at h;split at h
   ·rename_i k' y
    obtain ⟨x,ks,qs,h1,h2,h3⟩:=zcG ss (i+1) vs (fun x ks qs=>k (y,x) (none::ks) (none::qs)) hl' h
    exact ⟨(y,x),none::ks,none::qs,h1,step (e:=fun _=>(.p q y,.dead)) h2 h3 (fun _=>rfl) rfl (fun _=>.ptr _ _ _ (.inl ⟨_,rfl⟩))⟩
   ·rename_i y
    obtain ⟨x,ks,qs,h1,h2,h3⟩:=zcG ss (i+1) vs (fun x ks qs=>k (y,x) (none::ks) (none::qs)) hl' h
    exact ⟨(y,x),none::ks,none::qs,h1,step (e:=fun _=>(.p q y,.dead)) h2 h3 (fun _=>rfl) rfl (fun _=>.ptr _ _ _ (.inr rfl))⟩
   ·cases h
  | view q o=>
   simp only [coGo] at h;split at h
   ·rename_i q' n i' o' lo len;split at h
    ·rename_i hc;obtain ⟨rfl,rfl,rfl,hq⟩:=hc
     obtain ⟨x,ks,qs,h1,h2,h3⟩:=zcG ss (i+1) vs (fun x ks qs=>k ((i',lo,len),x) (none::ks) (none::qs)) hl' h
     exact ⟨((i',lo,len),x),none::ks,none::qs,h1,step (e:=fun _=>(.vref _ 1 i' _ lo len,.dead)) h2 h3 (fun _=>rfl) rfl (fun _=>.view _ _ _ _ _ _ rfl hq)⟩
    ·cases h
   ·cases h
  | vmp q o=>
   simp only [coGo] at h;split at h
   ·rename_i q' n i' o';split at h
    ·rename_i hc;obtain ⟨rfl,rfl,rfl,hq⟩:=hc
     obtain ⟨x,ks,qs,h1,h2,h3⟩:=zcG ss (i+1) vs (fun x ks qs=>k (i',x) (none::ks) (none::qs)) hl' h
     exact ⟨(i',x),none::ks,none::qs,h1,step (e:=fun _=>(.vmap _ 1 i' _,.dead)) h2 h3 (fun _=>rfl) rfl (fun _=>.vmp _ _ _ _ rfl hq)⟩
    ·cases h
   ·cases h
  | vbx ag ls o sz=>
   simp only [coGo] at h;split at h
   ·rename_i g n off;split at h
    ·rename_i ag' ds o' g2 n2 off2 len hL;split at h
     ·rename_i sz' els hL2;split at h
      ·rename_i hc;obtain ⟨rfl,rfl,rfl,hg,hg2⟩:=hc;obtain ⟨hlen,h4⟩:=zaT h;subst hlen;obtain ⟨y,e,h⟩:=zeI h4
       obtain ⟨x,ks,qs,h1,h2,h3⟩:=zcG ss (i+1) vs (fun x ks qs=>k ((y,els),x) (some g::ks) (some g2::qs)) hl' h
       refine ⟨((y,els),x),some g::ks,some g2::qs,h1,step (e:=fun _=>(.ptr (base+i) 1 0,.vbox _ (zho ls y) [_] [.ref (zct+i) 1 0 els.length])) h2 h3 (fun _=>rfl) rfl (fun sj'=>?_)⟩
       rw [←e];have:=Ext.vbx (tq:=tq) (L:=L) (all:=all) (sh:=sh) (sj:=sj') (id:=base+i) _ _ _ _ _ _ _ _ _ hg hg2 hL hL2
       rw [show base+i+20000=zct+i by unfold base zct; omega] at this
       exact this
      ·cases h
     ·cases h
    ·rename_i ag' ds hL;split at h
     ·rename_i hag;obtain ⟨rfl,hg⟩:=hag
      have key:∀ t:Tag,(t=.full∨t=.nil)→ds[o]? =some (.sl t [])→(zaz ls (ds.set o (.sl .nil [])) fun y=>coGo tq L all sh ss vs fun x ks qs=>k ((y,[]),x) (some g::ks) (none::qs))=some r→
        ∃ (x:SST (.vbx ag' ls o sz::ss)) (ks qs:List (Option Nat)),k x ks qs=some r∧(ks.length=(SS.vbx ag' ls o sz::ss).length∧qs.length=(SS.vbx ag' ls o sz::ss).length)∧∀ sj:(Nat→V),∀ (j:Nat) (w:V),(V.ptr g n 0::vs)[j]? =some w→j < (SS.vbx ag' ls o sz::ss).length→
         ∃ e q' q2' o2',(zce sj i (SS.vbx ag' ls o sz::ss) x)[j]? =some e∧ks[j]? =some q'∧qs[j]? =some q2'∧(ziT (SS.vbx ag' ls o sz::ss) x)[j]? =some o2'∧Ext tq L all sh sj (base+(i+j)) w q' e.1 e.2 q2' o2':=by
       intro t ht hd h;obtain ⟨y,e,h⟩:=zeI h
       obtain ⟨x,ks,qs,h1,h2,h3⟩:=zcG ss (i+1) vs (fun x ks qs=>k ((y,[]),x) (some g::ks) (none::qs)) hl' h
       refine ⟨((y,[]),x),some g::ks,none::qs,h1,step (e:=fun _=>(.ptr (base+i) 1 0,.vbox _ (zho ls y) [_] [.ref (zct+i) 1 0 0])) h2 h3 (fun _=>rfl) rfl (fun sj'=>?_)⟩
       rw [←e];have:=Ext.vbx0 (tq:=tq) (L:=L) (all:=all) (sh:=sh) (sj:=sj') (id:=base+i) _ _ _ _ _ sz _ ht hg hL hd
       rw [show base+i+20000=zct+i by unfold base zct; omega] at this
       exact this
      split at h
      ·rename_i hd; exact key _ (.inr rfl) hd h
      ·rename_i hd; exact key _ (.inl rfl) hd h
      ·cases h
     ·cases h
    ·cases h
   ·cases h
theorem zul:∀ {tks:List (Nat×Bool)} {k:TbT tks→Option R},zEH L tks k=some r→∃ Ts,k Ts=some r∧∀ (L0:Loc),(tks.map (·.1)).Nodup→∀ q,
  ((∃ w T,(zqm L0 tks Ts) (tb q)=(1,.tbl w T)∧za6 L q=some (w,T))∨(q ∉ tks.map (·.1)∧(zqm L0 tks Ts) (tb q)=L0 (tb q)))
 | [],k,h=>⟨(),h,fun _ _ _=>.inr ⟨by simp,rfl⟩⟩
 | (q0,w0)::tks,k,h=>by
  simp only [zEH] at h;split at h
  ·rename_i w' T e;split at h
   ·rename_i hw;subst hw
    obtain ⟨Ts,h1,h2⟩:=zul (k:=fun Ts=>k (T,Ts)) h
    refine ⟨(T,Ts),h1,fun L0 hn q=>?_⟩
    simp only [List.map_cons,List.nodup_cons] at hn;simp only [zqm]
    by_cases eq:q=q0
    ·subst eq; rw [Loc.set_same]; exact .inl ⟨_,_,rfl,e⟩
    ·rw [Loc.set_ne _ _ (fun h=>eq (zfq h))]
     rcases h2 L0 hn.2 q with h | ⟨h,h'⟩
     ·exact .inl h
     ·exact .inr ⟨by simp only [List.map_cons,List.mem_cons,not_or]; exact ⟨eq,h⟩,h'⟩
   ·cases h
  ·cases h
end
theorem zxD {L0:Loc} {g:Nat} (hg:∀ q,g≠tb q):∀ (tks:List (Nat×Bool)) (Ts:TbT tks),zqm L0 tks Ts g=L0 g
 | [],_=>rfl
 | (q,w)::tks,Ts=>by simp only [zqm]; rw [Loc.set_ne _ _ (hg q),zxD hg tks]
end Wf

