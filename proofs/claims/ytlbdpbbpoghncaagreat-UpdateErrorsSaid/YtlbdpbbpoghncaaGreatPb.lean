/- A part of the proof: lemmas that the law's row leans on. -/
import Derived.Test.YtlbdpbbpoghncaaGreatPa
set_option linter.all false
namespace Wf
open Go Go.RowKit
def zfU (w:World) (A:Nat→Prop) (N:Nat) (γ:Nat→Nat→Option Nat) (sz:Nat) (els:List D) (x:Array Value):Prop:=
 ∃ vs:Nat→Value,∀ (i:Nat) (d:D),els[i]? =some d→Rep w A N γ d (vs i)∧(vs i).cells.size=sz∧∀ (q:Nat) (u:Value),(vs i).cells[q]? =some u→x[i*sz+q]? =some u
section
variable {c:Ctx} {N:Nat} {w0:World} {O0:Nat→Prop} {L Lr:Loc} {w:World}
def zGv (c:Ctx) (L:Loc) (v:V) (b:Nat):Prop:=
 ((∃ d,v=.d d)∧¬ own c L b)∨(∃ g,g∈v.ids∧c.ι g=some b∧(L g).2≠.dead)∨∃ k n i o lo len,v=.vref k n i o lo len∧zcq L k i (some o)∧c.ρ k i o=some b
theorem ztW (hm:Mem c N w0 O0 L w) (hs:Sees Lr L) {v:V} {u:Value} {l:List D} (he:zdH Lr v=some l) (hv:Val c L w N v u):
  ∃ a cap,u=.slice a l.length cap∧l.length≤cap∧(l=[]∨∃ b o sz,∃ vs:Nat→Value,a=some ⟨b,o,none⟩∧b < w.heap.size∧zGv c L v b∧
   ∀ (i:Nat) (d:D),l[i]? =some d→Rep w (own c L) N c.γ d (vs i)∧(vs i).cells.size=sz∧zdZ w b (o+i*sz) (vs i)):=by
 have he:=hs.els he
 cases v with
 | d y=>
  cases y with
  | sl t l'=>
   simp [zdH] at he; subst he;have hr:=hv.dat
   cases hr with
   | slE _ a cap _ _ _=>exact ⟨a,cap,rfl,by simp,.inl rfl⟩
   | sl _ _ b o sz cap vs g1 g1' g2 g3 g4 g5 g6 g7 g8=>
    refine ⟨_,cap,rfl,g2,.inr ⟨b,o,sz,vs,rfl,g6,.inl ⟨⟨_,rfl⟩,g4⟩,fun i d hd=>?_⟩⟩
    have hi:i < l'.length:=by
     rcases Nat.lt_or_ge i l'.length with h | h
     ·exact h
     ·rw [List.getElem?_eq_none h] at hd; cases hd
    exact ⟨g7 i d hd,(g8 i hi).1,(g8 i hi).2⟩
  | _=>cases he
 | ref g n off len=>
  simp only [zdH] at he
  cases hx:L.get g n with
  | arr sz els lv=>
   rw [hx] at he;dsimp only at he;split at he
   ·rename_i hle;injection he with he; subst he
    cases hv with
    | ref _ _ _ _ _ k1 k2 k3=>
     obtain ⟨_,a,cap,rfl,h4,h5⟩:=k2 _ _ _ hx
     have hlen:((els.drop off).take len).length=len:=by simp; omega
     refine ⟨a,cap,by rw [hlen],by rw [hlen]; exact h4,?_⟩
     by_cases h0:len=0
     ·exact .inl (by subst h0; simp)
     ·rcases h5 with h5 | ⟨b,y,T,fz,q1,rfl,q3,q4⟩
      ·omega
      ·have hob:=hm.get hx (by simp)
       rw [q1] at hob;obtain ⟨x',T',fz',g2,g3,g4,us,g5⟩:=hob
       obtain ⟨_,e2⟩:=zbM hx (by simp)
       have hmine:=hm.mine g b q1 (by rw [e2]; simp)
       refine .inr ⟨b,off*sz,sz,fun i=>us (off+i),rfl,hmine.2.1,.inr (.inl ⟨g,by simp [V.ids],q1,by rw [e2]; simp⟩),fun i d hd=>?_⟩
       obtain ⟨p1,p2,p3⟩:=g5 _ d (zg0 hd)
       refine ⟨p1,p2,fun q u hu=>?_⟩
       have:=p3 q u hu
       rwa [Nat.add_mul] at this
   ·cases he
  | _=>rw [hx] at he; cases he
 | bref g n off len=>
  simp only [zdH] at he
  cases hx:L.get g n with
  | box ag ds=>
   rw [hx] at he;dsimp only at he;split at he
   ·rename_i hle;injection he with he; subst he
    cases hv with
    | bref _ _ _ _ _ k1 k2=>
     obtain ⟨p1,b,cap,p2,p3,rfl⟩:=k2 _ (by rw [hx]; rfl)
     have hlen:((ds.drop off).take len).length=len:=by simp; omega
     obtain ⟨b',x,T,fz,h1,h2,h3,h4,h5⟩:=hm.get hx (by simp)
     rw [p2] at h1; cases h1
     obtain ⟨_,e2⟩:=zbM hx (by simp)
     have hmine:=hm.mine g b p2 (by rw [e2]; simp)
     refine ⟨_,_,by rw [hlen],by rw [hlen]; omega,.inr ⟨b,off,1,fun i=>x.getD (off+i) undef,rfl,hmine.2.1,.inr (.inl ⟨g,by simp [V.ids],p2,by rw [e2]; simp⟩),fun i d hd=>?_⟩⟩
     have hd':=zg0 hd
     have hi:off+i < x.size:=by
      rcases Nat.lt_or_ge (off+i) ds.length with h | h
      ·omega
      ·rw [List.getElem?_eq_none h] at hd'; cases hd'
     have hxi:x[off+i]? =some (x.getD (off+i) undef):=by simp [hi]
     obtain ⟨r1,r2⟩:=h5 _ d _ hd' hxi
     refine ⟨r1,by rw [zbm r2]; rfl,fun q u hu=>?_⟩
     rw [zbm r2] at hu
     cases q with
     | zero=>
      simp only [List.getElem?_toArray,List.getElem?_cons_zero,Option.some.injEq] at hu;rw [Nat.mul_one,Nat.add_zero];refine zfy h2 ?_
      rw [←hu]; exact hxi
     | succ q=>simp at hu
   ·cases he
  | _=>rw [hx] at he; cases he
 | vref k n i o lo len=>
  simp only [zdH] at he
  cases hx:zeE L k n i o with
  | none=>rw [hx] at he; cases he
  | some els=>
   rw [hx] at he;simp only [Option.bind_some] at he;split at he
   rotate_left
   ·cases he
   rename_i hle;injection he with he; subst he
   cases hv with
   | vref _ _ _ _ _ _ _ k1 k2=>
    obtain ⟨_,a,cap,rfl,h4,h5⟩:=k2 _ hx
    have hlen:((els.drop lo).take len).length=len:=by simp; omega
    refine ⟨a,cap,by rw [hlen],by rw [hlen]; exact h4,?_⟩
    by_cases h0:len=0
    ·exact .inl (by subst h0; simp)
    ·rcases h5 with h5 | ⟨b,y,T,fz,q1,rfl,q3,q4⟩
     ·omega
     ·have hne:els≠[]:=by rintro rfl; simp at hle; omega
      obtain ⟨wr,T',cs,b',cap',x,ty,fz',vs,t1,t2,t3,t4,t5,t6,t7,t8,t9,t10⟩:=hm.rowAt hx (.inl hne);rw [q1] at t5; cases t5;generalize hszz:zcS k o=sz' at*
      refine .inr ⟨b,lo*sz',sz',fun j=>vs (lo+j),rfl,zbd t6,.inr (.inr ⟨k,n,i,o,lo,len,rfl,⟨wr,T',_,t1,by unfold zdc; rw [t3]; exact t4,rfl⟩,q1⟩),fun j d hd=>?_⟩
      obtain ⟨f1,f2,f3,f4,f5⟩:=t10 _ d (zg0 hd)
      refine ⟨f2.flEl f1 fun _ _ _ h=>h,f4,fun q u hu=>?_⟩
      have:=f5 q u hu
      rwa [Nat.add_mul] at this
 | _=>cases he
theorem ztX {sz:Nat} {l:List D} (h:zec sz l=true) {i:Nat} {d:D} (hd:l[i]? =some d):d.width=sz∧(d.cell=true∨d.isAgg=true):=by
 unfold zec at h;rw [List.all_eq_true] at h;have:=h d (List.mem_of_getElem? hd);simpa using this
theorem zfA {P:Program} {A:Nat→Prop} {γ:Nat→Nat→Option Nat} {l:List D} {b o sz cap:Nat} {vs:Nat→Value}
  (h:∀ (i:Nat) (d:D),l[i]? =some d→Rep w A N γ d (vs i)∧(vs i).cells.size=sz∧zdZ w b (o+i*sz) (vs i)):
  ∃ x,(∀ w':World,(∀ a,w'.cell? a=w.cell? a)→(Builtin.firstCells sz l.length (.slice (some ⟨b,o,none⟩) l.length cap)).run P w'=.ok x w')∧x.size=l.length*sz∧zfU w A N γ sz l x∧
   ∀ (k:Nat) (y:Value),x[k]? =some y→∃ (i:Nat) (d:D) (q:Nat),l[i]? =some d∧(vs i).cells[q]? =some y:=by
 let f:Nat→Value:=fun k=>((vs (k / sz)).cells[k % sz]?).getD undef
 have hf:∀ (i q:Nat) (d:D) (u:Value),l[i]? =some d→(vs i).cells[q]? =some u→f (i*sz+q)=u:=by
  intro i q d u hd hu
  have hq:q < sz:=by
   rcases Nat.lt_or_ge q (vs i).cells.size with h' | h'
   ·rw [(h i d hd).2.1] at h'; exact h'
   ·rw [Array.getElem?_eq_none h'] at hu; cases hu
  have e1:(i*sz+q) / sz=i:=by
   rw [Nat.mul_comm,Nat.mul_add_div (by omega),Nat.div_eq_of_lt hq]; omega
  have e2:(i*sz+q) % sz=q:=by rw [Nat.mul_comm,Nat.mul_add_mod,Nat.mod_eq_of_lt hq]
  simp only [f,e1,e2,hu,Option.getD_some]
 have hk:∀ k,k < l.length*sz→∃ d u,l[k / sz]? =some d∧(vs (k / sz)).cells[k % sz]? =some u∧k=k / sz*sz+k % sz:=by
  intro k hk
  have h0:0 < sz:=by
   rcases Nat.eq_zero_or_pos sz with h' | h'
   ·rw [h'] at hk; simp at hk
   ·exact h'
  have h1:k / sz < l.length:=by rw [Nat.div_lt_iff_lt_mul h0]; exact hk
  have h2:k % sz < (vs (k / sz)).cells.size:=by rw [(h _ _ (List.getElem?_eq_getElem h1)).2.1]; exact Nat.mod_lt _ h0
  exact ⟨_,_,List.getElem?_eq_getElem h1,Array.getElem?_eq_getElem h2,by rw [Nat.mul_comm]; exact (Nat.div_add_mod k sz).symm⟩
 refine ⟨((List.range (l.length*sz)).map f).toArray,?_,by simp,⟨vs,fun i d hd=>⟨(h i d hd).1,(h i d hd).2.1,fun q u hu=>?_⟩⟩,?_⟩
 ·intro w' hw';simp only [Builtin.firstCells]
  refine run_loadCells w' _ _ f fun j hj=>?_
  rw [hw'];obtain ⟨d,u,h1,h2,h3⟩:=hk j hj;have:=(h _ d h1).2.2 _ u h2;rw [Addr.add_lit]
  have e:f j=u:=by rw [h3]; exact hf _ _ d u h1 h2
  rw [e]
  rw [show o+j=o+j / sz*sz+j % sz by omega]; exact this
 ·have hi:i < l.length:=by
   rcases Nat.lt_or_ge i l.length with h' | h'
   ·exact h'
   ·rw [List.getElem?_eq_none h'] at hd; cases hd
  have hq:q < sz:=by
   rcases Nat.lt_or_ge q (vs i).cells.size with h' | h'
   ·rw [(h i d hd).2.1] at h'; exact h'
   ·rw [Array.getElem?_eq_none h'] at hu; cases hu
  have hlt:i*sz+q < l.length*sz:=by
   have:(i+1)*sz≤l.length*sz:=Nat.mul_le_mul_right _ hi;rw [Nat.succ_mul] at this; omega
  simp [hlt,hf i q d u hd hu]
 ·intro k y hy
  have hlt:k < l.length*sz:=by
   rcases Nat.lt_or_ge k (l.length*sz) with h' | h'
   ·exact h'
   ·rw [Array.getElem?_eq_none (by simpa using h')] at hy; cases hy
  obtain ⟨d,u,h1,h2,h3⟩:=hk k hlt;simp [hlt] at hy;rw [h3,hf _ _ d u h1 h2] at hy;subst hy;exact ⟨_,d,_,h1,h2⟩
theorem zfB {P:Program} (hm:Mem c N w0 O0 L w) (hs:Sees Lr L) {v:V} {u:Value} {l:List D} {sz:Nat} (he:zdH Lr v=some l) (hv:Val c L w N v u) (hok:zec sz l=true):
  ∃ x,(∀ w':World,(∀ a,w'.cell? a=w.cell? a)→(Builtin.firstCells sz l.length u).run P w'=.ok x w')∧x.size=l.length*sz∧zfU w (own c L) N c.γ sz l x∧∀ (k:Nat) (y:Value),x[k]? =some y→y.oneCell'=true:=by
 obtain ⟨a,cap,rfl,hc,h⟩:=ztW hm hs he hv;rcases h with rfl | ⟨b,o,sz',vs,rfl,hb,_,h⟩
 ·refine ⟨#[],?_,by simp,⟨fun _=>undef,by simp⟩,by simp⟩
  intro w' _
  cases a with
  | none=>simp [Builtin.firstCells]
  | some a=>simp [Builtin.firstCells,loadCells,loadCellsFrom]
 ·by_cases h0:l=[]
  ·subst h0
   exact ⟨#[],fun w' _=>by simp [Builtin.firstCells,loadCells,loadCellsFrom],by simp,⟨fun _=>undef,by simp⟩,by simp⟩
  ·have hsz:∀ (i:Nat) (d:D),l[i]? =some d→(vs i).cells.size=sz∧∀ (q:Nat) (u:Value),(vs i).cells[q]? =some u→u.oneCell'=true:=by
    intro i d hd;obtain ⟨h1,h2⟩:=ztX hok hd;have:=((h i d hd).1).cells h2
    exact ⟨by omega,this.2⟩
   have hzz:sz'=sz:=by
    cases l with
    | nil=>exact absurd rfl h0
    | cons d r=>rw [←(h 0 d (by simp)).2.1]; exact (hsz 0 d (by simp)).1
   subst hzz;obtain ⟨x,h1,h2,h3,h4⟩:=zfA (P:=P) (cap:=cap) h
   refine ⟨x,h1,h2,h3,fun k y hy=>?_⟩
   obtain ⟨i,d,q,p1,p2⟩:=h4 k y hy;exact (hsz i d p1).2 q y p2
theorem zkG (n c:Nat) (h:c < n):Builtin.nextslicecap n c≤2*n+2000:=by
 have hg:∀ r c,Builtin.growBy n r c≤max c (2*n+2000):=by
  intro r
  induction r with
  | zero=>intro c; simp only [Builtin.growBy]; omega
  | succ r ih=>
   intro c;simp only [Builtin.growBy];split
   ·omega
   ·have:=ih (c+(c+768) / 4); omega
 unfold Builtin.nextslicecap;split
 ·omega
 ·split
  ·omega
  ·have:=hg 4 c; omega
theorem ziN {P:Program} {ty n sz:Nat} (h:zcK P ty n=some sz):∃ e i z zv,P.underlying ty=some (.slice e)∧P.info? e=some i∧i.size=sz∧i.zero=some zv∧valD zv=some z∧
  0 < sz∧z.width=sz∧(z.cell || z.isAgg)=true∧i.bytes≤4096∧n≤2 ^ 32:=by
 unfold zcK at h;split at h
 ·rename_i e hu
  cases hi:P.info? e with
  | none=>rw [hi] at h; cases h
  | some i=>
  cases hz:zgN P e with
  | none=>rw [hi,hz] at h; cases h
  | some z=>
   rw [hi,hz] at h;dsimp only at h;split at h
   ·rename_i hc;injection h with h; subst h;unfold zgN at hz;rw [hi] at hz;simp only [Option.bind_some] at hz
    cases hzz:i.zero with
    | none=>rw [hzz] at hz; cases hz
    | some zv=>rw [hzz] at hz; exact ⟨e,i,z,zv,hu,hi,rfl,hzz,hz,hc⟩
   ·cases h
 ·cases h
theorem zde {v:Value} {d:D} (h:valD v=some d):v.cells.size=d.width∧((d.cell || d.isAgg)=true→∀ (i:Nat) (u:Value),v.cells[i]? =some u→u.oneCell'=true)∧∀ w A N γ,Rep w A N γ d v:=by
 have one:∀ {v:Value} {d:D},zhW v=some d→d.cell=true∧v.oneCell'=true∧d.width=1∧∀ w A N γ,Rep w A N γ d v:=by
  intro v d hd
  cases v with
  | int k n=>simp [zhW] at hd; subst hd; exact ⟨rfl,rfl,rfl,fun _ _ _ _=>.int _ _⟩
  | bool b=>simp [zhW] at hd; subst hd; exact ⟨rfl,rfl,rfl,fun _ _ _ _=>.bool _⟩
  | string s=>simp [zhW] at hd; subst hd; exact ⟨rfl,rfl,rfl,fun _ _ _ _=>.str _⟩
  | pointer a=>cases a<;>simp [zhW] at hd; subst hd; exact ⟨rfl,rfl,rfl,fun _ _ _ _=>.nilp⟩
  | slice a l k=>
   cases a with
   | some a=>simp [zhW] at hd
   | none=>
    cases l with
    | succ l=>simp [zhW] at hd
    | zero=>
     cases k with
     | succ k=>simp [zhW] at hd
     | zero=>simp [zhW] at hd; subst hd; exact ⟨rfl,rfl,rfl,fun _ _ _ _=>.slE _ _ _ (fun _=>rfl) (fun _=>⟨rfl,rfl⟩) (by simp)⟩
  | map r=>cases r<;>simp [zhW] at hd; subst hd; exact ⟨rfl,rfl,rfl,fun _ _ _ _=>.nilm⟩
  | nilFunc=>simp [zhW] at hd; subst hd; exact ⟨rfl,rfl,rfl,fun _ _ _ _=>.nilfn⟩
  | _=>simp [zhW] at hd
 by_cases hag:∃ cs,v=.agg cs
 ·obtain ⟨cs,rfl⟩:=hag;simp only [valD] at h
  cases hm:cs.toList.mapM zhW with
  | none=>rw [hm] at h; cases h
  | some ds=>
   rw [hm] at h; simp at h; subst h
   have key:∀ (l:List Value) (ds:List D),l.mapM zhW=some ds→l.length=ds.length∧∀ (i:Nat) (d:D) (v:Value),ds[i]? =some d→l[i]? =some v→zhW v=some d:=by
    intro l
    induction l with
    | nil=>intro ds h; simp at h; subst h; simp
    | cons v l ih=>
     intro ds h;simp only [List.mapM_cons] at h
     cases h1:zhW v with
     | none=>rw [h1] at h; cases h
     | some d=>
      rw [h1] at h
      cases h2:l.mapM zhW with
      | none=>rw [h2] at h; cases h
      | some r=>
       rw [h2] at h;injection h with h; subst h;obtain ⟨p1,p2⟩:=ih r h2
       refine ⟨by simp [p1],fun i d' v' hd hv=>?_⟩
       cases i with
       | zero=>simp at hd hv; subst hd; subst hv; exact h1
       | succ i=>exact p2 i d' v' (by simpa using hd) (by simpa using hv)
   obtain ⟨p1,p2⟩:=key _ _ hm
   have hsz:cs.size=ds.length:=by simpa using p1
   refine ⟨by simp [Value.cells,D.width,hsz],fun _ i u hu=>?_,fun w A N γ=>.agg _ _ hsz ?_ ?_⟩
   ·simp only [Value.cells] at hu
    have hi:i < ds.length:=by
     rcases Nat.lt_or_ge i cs.size with h' | h'
     ·omega
     ·rw [Array.getElem?_eq_none h'] at hu; cases hu
    exact (one (p2 i _ u (List.getElem?_eq_getElem hi) (by simpa using hu))).2.1
   ·intro i d v hd hv; exact (one (p2 i d v hd (by simpa using hv))).2.2.2 _ _ _ _
   ·intro i u hu
    have hi:i < ds.length:=by
     rcases Nat.lt_or_ge i cs.size with h' | h'
     ·omega
     ·rw [Array.getElem?_eq_none h'] at hu; cases hu
    exact (one (p2 i _ u (List.getElem?_eq_getElem hi) (by simpa using hu))).2.1
 ·have h':zhW v=some d:=by
   cases v<;>first | exact h | exact absurd ⟨_,rfl⟩ hag
  obtain ⟨h1,h2,h3,h4⟩:=one h'
  refine ⟨by rw [zbm h2,h3]; rfl,fun _ i u hu=>?_,h4⟩
  rw [zbm h2] at hu
  cases i with
  | zero=>simp at hu; subst hu; exact h2
  | succ i=>simp at hu
end
end Wf

namespace Wf
open Go Go.RowKit
section
variable {c:Ctx} {N:Nat} {w0:World} {O0:Nat→Prop} {L Lr:Loc} {w:World}
theorem Mem.drewN (h:Mem c N w0 O0 L w) (k:Nat):Mem c N w0 O0 L (w.drewN k)∧Grow c L w c L (w.drewN k):=by
 have hg:Grow c L w c L (w.drewN k):=⟨Nat.le_refl _,fun _ _ _=>rfl,fun _ _ h=>h,fun _ _ _ h=>h,fun _ _ _ _ _=>rfl,fun _ h=>⟨h,rfl,rfl⟩,fun _ y _ fz h _=>⟨y,fz,h,rfl⟩,fun _=>Nat.le_refl _,fun _ _=>.inr ⟨rfl,zb1.refl _⟩⟩
 exact ⟨⟨fun g=>(h.obj g).grow hg fun _ _ _=>rfl,h.inj,h.mine,h.mineN,h.tab.stable (fun _=>rfl) rfl rfl rfl fun _ _ _ _ _ _=>rfl,h.iotab,h.only,h.size,h.size0,h.os,h.tape,h.output,h.keep,h.osub⟩,hg⟩
theorem Mem.drew (h:Mem c N w0 O0 L w):Mem c N w0 O0 L w.drew∧Grow c L w c L w.drew:=by
 have hg:Grow c L w c L w.drew:=⟨Nat.le_refl _,fun _ _ _=>rfl,fun _ _ h=>h,fun _ _ _ h=>h,fun _ _ _ _ _=>rfl,fun _ h=>⟨h,rfl,rfl⟩,fun _ y _ fz h _=>⟨y,fz,h,rfl⟩,fun _=>Nat.le_refl _,fun _ _=>.inr ⟨rfl,zb1.refl _⟩⟩
 exact ⟨⟨fun g=>(h.obj g).grow hg fun _ _ _=>rfl,h.inj,h.mine,h.mineN,h.tab.stable (fun _=>rfl) rfl rfl rfl fun _ _ _ _ _ _=>rfl,h.iotab,h.only,h.size,h.size0,h.os,h.tape,h.output,h.keep,h.osub⟩,hg⟩
def zqa (sz:Nat) (els:List D) (z:HObj):Prop:=z=.arr sz els true∨z=.trow sz els
theorem zqa.ok {sz els z β} (h:zqa sz els z):zgt c L w N β z↔zgt c L w N β (.arr sz els true):=by
 rcases h with rfl | rfl<;>cases β<;>exact Iff.rfl
theorem zqa.val {sz els z t n u} (h:zqa sz els z) (hL:L t=(n,z)) (hs:SlAt w (c.ι t) sz 0 els.length u):Val c L w N (.ref t n 0 els.length) u:=by
 have hg:L.get t n=z:=by unfold Loc.get; rw [hL]; simp
 refine .ref _ _ _ _ _ (by rw [hL]; exact Nat.le_refl _) (fun sz' els' l' h'=>?_) (fun sz' els' h'=>?_)
 ·rw [hg] at h';rcases h with rfl | rfl
  ·cases h'; exact ⟨by omega,hs⟩
  ·cases h'
 ·rw [hg] at h';rcases h with rfl | rfl
  ·cases h'
  ·cases h'; exact ⟨by omega,hs⟩
theorem zzY {t sz:Nat} {els:List D} {x:Array Value} {T:TypeId} {wr:Wr} {z:HObj} (hz:zqa sz els z) (ht0:t < 100000) (hr:zfU w (own c (L.upd wr)) N c.γ sz els x) {cap:Nat}
  (hm':Mem c N w0 O0 (L.upd wr) w) (hg':Grow c L w c (L.upd wr) w) (ht:(L.upd wr t).1 < L.new t) (hcap:cap*sz≤x.size) (hle:els.length≤cap):
  Did c N w0 O0 L w { v:=.ref t (L.new t) 0 els.length,wr:=wr++[(t,(L.new t,z))] } (.slice (some ⟨w.heap.size,0,none⟩) els.length cap) (w.alloc (.cells x T)):=by
 have hg:=Grow.alloc hm' (.cells x T) t (L.new t) z ht0 ht
 have hcell:∀ k,(w.alloc (.cells x T)).cell? ⟨w.heap.size,k,none⟩=x[k]? :=fun k=>World.cell?_alloc_new w x T k
 have hheap:(w.alloc (.cells x T)).heap[w.heap.size]? =some (.cells x T):=by
  show (w.heap.push (.cells x T))[w.heap.size]? =_;simp
 have hmm:=Mem.alloc hm' (.cells x T) t (L.new t) z ht0 ht (hz.ok.2 (by
  obtain ⟨vs,hvs⟩:=hr
  refine ⟨x,T,(0,0),hheap,Unfrozen.new w x T,?_,vs,fun i d hd=>?_⟩
  ·exact Nat.le_trans (Nat.mul_le_mul_right _ hle) hcap
  ·obtain ⟨p1,p2,p3⟩:=hvs i d hd
   exact ⟨p1.grow hg,p2,fun q u hu=>by rw [hcell]; simpa using p3 q u hu⟩))
 refine ⟨c.at t (some w.heap.size),?_,?_,?_⟩
 ·rw [Loc.upd_append]; exact hmm
 ·rw [Loc.upd_append]; exact hg'.trans hg
 ·rw [Loc.upd_append]
  refine hz.val (by simp [Loc.upd,Loc.set_same]) ⟨_,cap,rfl,hle,?_⟩
  by_cases hc:cap=0
  ·exact .inl hc
  ·exact .inr ⟨w.heap.size,x,T,(0,0),by simp [Ctx.at],by simp,hheap,by simpa using hcap⟩
theorem zo7 {t sz:Nat} {els:List D} {x:Array Value} {T:TypeId} {wr:Wr} (ht0:t < 100000) (hr:zfU w (own c (L.upd wr)) N c.γ sz els x) {cap:Nat}
  (hm':Mem c N w0 O0 (L.upd wr) w) (hg':Grow c L w c (L.upd wr) w) (ht:(L.upd wr t).1 < L.new t) (hcap:cap*sz≤x.size) (hle:els.length≤cap):
  Did c N w0 O0 L w { v:=.ref t (L.new t) 0 els.length,wr:=wr++[(t,(L.new t,.arr sz els true))] } (.slice (some ⟨w.heap.size,0,none⟩) els.length cap) (w.alloc (.cells x T)):=
 zzY (.inl rfl) ht0 hr hm' hg' ht hcap hle
theorem TabRel.clear {R:Nat→Prop} (h:TabRel L c R w) {k i o:Nat} {T:Tb} {cs:List D} {els:List D} {c':Ctx} {L':Loc} {w':World} (hT:za6 L k=some (true,T)) (hi:T[i]? =some cs) (hc:cs[o]? =some (.sl .own els))
  (hL':∀ k',za6 L' k'=if k'=k then some (true,T.set i (cs.set o .undef)) else za6 L k') (hγ:c'.γ=c.γ) (hρ:c'.ρ=c.ρ) (hO1:∀ b,c'.O b→c.O b) (hO2:∀ b,c.O b→c.ρ k i o≠some b→c'.O b)
  (hw:∀ q,c.ρ k i o≠some q→w'.heap[q]? =w.heap[q]?):TabRel L' c' R w':=by
 have hil:=za3 hi;have hol:=za3 hc
 have hth:zcq L k i (some o):=⟨true,T,_,hT,by unfold zdc; rw [hi]; exact hc,rfl⟩
 have htab:∀ k i q,c'.tab k i q=c.tab k i q:=fun k i q=>by cases q<;>simp only [Ctx.tab,hγ,hρ]
 have hthere:∀ k' i' q,zcq L' k' i' q→zcq L k' i' q∧(k',i',q)≠(k,i,some o):=by
  intro k' i' q hq
  by_cases ek:k'=k
  ·subst ek
   cases q with
   | none=>
    obtain ⟨wr,T0,h1,h2⟩:=hq;rw [hL',if_pos rfl] at h1;cases h1
    exact ⟨⟨_,_,hT,by simpa using h2⟩,by simp⟩
   | some o'=>
    obtain ⟨wr,T0,x,h1,h2,h3⟩:=hq;rw [hL',if_pos rfl] at h1;cases h1;rw [zhj hil] at h2
    by_cases ei:i'=i
    ·subst ei;rw [if_pos rfl,List.getElem?_set] at h2
     by_cases eo:o=o'
     ·subst eo; rw [if_pos rfl,if_pos hol] at h2; cases h2; cases h3
     ·rw [if_neg eo] at h2
      exact ⟨⟨_,_,x,hT,by unfold zdc; rw [hi]; exact h2,h3⟩,by simpa using fun e=>eo e.symm⟩
    ·rw [if_neg ei] at h2
     exact ⟨⟨_,_,x,hT,h2,h3⟩,by simp [ei]⟩
  ·refine ⟨?_,by simp [ek]⟩
   cases q with
   | none=>
    obtain ⟨wr,T0,h1,h2⟩:=hq;rw [hL',if_neg ek] at h1
    exact ⟨_,_,h1,h2⟩
   | some o'=>
    obtain ⟨wr,T0,x,h1,h2,h3⟩:=hq;rw [hL',if_neg ek] at h1;exact ⟨_,_,x,h1,h2,h3⟩
 have hne:∀ k' i' q b',zcq L k' i' q→c.tab k' i' q=some b'→(k',i',q)≠(k,i,some o)→c.ρ k i o≠some b':=by
  intro k' i' q b' h1 h2 h3 h4;obtain ⟨a1,a2,a3⟩:=h.inj k' i' q k i (some o) b' h1 hth h2 h4;subst a1; subst a2; subst a3; exact h3 rfl
 have keepObj:∀ (k':Nat) (wr:Bool) (T0:Tb) (i':Nat) (cs0 cs1:List D),za6 L k'=some (wr,T0)→T0[i']? =some cs0→cs1.length=cs0.length→(∀ o' d1,cs1[o']? =some d1→d1=.undef∧o' < cs0.length∨(k',i',o')≠(k,i,o)∧cs0[o']? =some d1)→
   ∃ (b:Nat) (x:Array Value) (ty:TypeId) (fz:Nat×Nat),c'.γ k' i'=some b∧w'.heap[b]? =some (.cells x ty fz)∧Unfrozen w' b x.size∧x.size=cs1.length∧
    ∀ (o:Nat) (d:D) (u:Value),cs1[o]? =some d→x[o]? =some u→u.oneCell'=true∧CellOk c'.γ w' (zcS k' o) (c'.ρ k' i' o) d u:=by
  intro k' wr T0 i' cs0 cs1 h1 h2 h3 h4;obtain ⟨b',x,ty,fz,p1,p2,p3,p4,p5⟩:=h.obj k' wr T0 i' cs0 h1 h2
  have e:=hw b' (hne k' i' none b' ⟨wr,T0,h1,za3 h2⟩ p1 (by simp))
  refine ⟨b',x,ty,fz,by rw [hγ]; exact p1,by rw [e]; exact p2,p3.same e,by omega,fun o' d1 u hd1 hu=>?_⟩
  rcases h4 o' d1 hd1 with ⟨rfl,e1⟩ | ⟨e1,e2⟩
  ·exact ⟨(p5 o' cs0[o'] u (by simp) hu).1,.undef u⟩
  ·obtain ⟨a1,a2⟩:=p5 o' d1 u e2 hu;refine ⟨a1,?_⟩;rw [hγ,hρ]
   by_cases hr:d1.isRow=true
   ·refine a2.mono (fun b2 hb2=>hw b2 (hne k' i' (some o') b2 ⟨wr,T0,d1,h1,by unfold zdc; rw [h2]; exact e2,hr⟩ hb2 ?_)) fun _ _ _ h=>h
    simpa using e1
   ·cases a2 with
    | undef u=>exact .undef u
    | flat _ _ f1 f2=>exact .flat _ _ f1 (f2.fl f1 fun _ _ _ h=>h).1
    | rowE a h=>exact absurd rfl hr
    | row=>exact absurd rfl hr
    | mp=>exact absurd rfl hr
 refine ⟨fun k' wr T0 i' cs0 h1 h2=>?_,fun k' wr T0 i' b' h1 h2=>?_,fun k1 i1 q1 k2 i2 q2 b' h1 h2 h3 h4=>?_,fun k' T0 i' q b' h1 h2 h3=>?_,fun k' T0 i' q b' h1 h2 h3=>?_⟩
 ·rw [hL'] at h1
  by_cases ek:k'=k
  ·subst ek;rw [if_pos rfl] at h1; cases h1;rw [zzX hil] at h2
   by_cases ei:i'=i
   ·subst ei;rw [if_pos rfl] at h2; cases h2
    refine keepObj k' true T i' cs _ hT hi (by simp) fun o' d1 hd1=>?_
    rw [List.getElem?_set] at hd1
    by_cases eo:o=o'
    ·subst eo; rw [if_pos rfl,if_pos hol] at hd1; injection hd1 with hd1; exact .inl ⟨hd1.symm,hol⟩
    ·rw [if_neg eo] at hd1; exact .inr ⟨by simpa using fun h=>eo h.symm,hd1⟩
   ·rw [if_neg ei] at h2
    exact keepObj k' true T i' cs0 _ hT h2 rfl fun o' d1 hd1=>.inr ⟨by simp [ei],hd1⟩
  ·rw [if_neg ek] at h1
   exact keepObj k' wr T0 i' cs0 _ h1 h2 rfl fun o' d1 hd1=>.inr ⟨by simp [ek],hd1⟩
 ·rw [hL'] at h1;rw [hγ] at h2
  by_cases ek:k'=k
  ·subst ek;rw [if_pos rfl] at h1; cases h1;simpa using h.tight k' true T i' b' hT h2
  ·rw [if_neg ek] at h1; exact h.tight k' wr T0 i' b' h1 h2
 ·rw [htab] at h3 h4;exact h.inj _ _ _ _ _ _ b' (hthere _ _ _ h1).1 (hthere _ _ _ h2).1 h3 h4
 ·rw [htab] at h3;obtain ⟨a1,a2⟩:=hthere _ _ _ h2;refine hO2 b' ?_ (hne _ _ _ _ a1 h3 a2);rw [hL'] at h1
  by_cases ek:k'=k
  ·subst ek; exact h.wr k' T i' q b' hT a1 h3
  ·rw [if_neg ek] at h1; exact h.wr k' T0 i' q b' h1 a1 h3
 ·rw [htab] at h3;obtain ⟨a1,a2⟩:=hthere _ _ _ h2;rw [hL'] at h1
  by_cases ek:k'=k
  ·subst ek; rw [if_pos rfl] at h1; cases h1
  ·rw [if_neg ek] at h1;obtain ⟨b1,b2⟩:=h.ro k' T0 i' q b' h1 a1 h3
   exact ⟨fun e=>b1 (hO1 _ e),b2⟩
theorem ztY {T:Tb} {i o:Nat} {cs:List D} (hi:T[i]? =some cs):TbOn T (T.set i (cs.set o .undef)):=by
 intro i' o';rw [zhj (za3 hi)]
 by_cases ei:i'=i
 ·subst ei;rw [if_pos rfl,List.getElem?_set]
  have hcT:zdc T i' o'=cs[o']? :=by unfold zdc; rw [hi]; rfl
  rw [hcT]
  by_cases eo:o=o'
  ·subst eo;rw [if_pos rfl];split
   ·exact ⟨fun l h=>(by cases h),fun k es h=>(by cases h)⟩
   ·exact ⟨fun l h=>(by cases h),fun k es h=>(by cases h)⟩
  ·rw [if_neg eo]
   exact ⟨fun l h=>⟨l,h,rfl⟩,fun k es h=>⟨es,h⟩⟩
 ·rw [if_neg ei]
  exact ⟨fun l h=>⟨l,h,rfl⟩,fun k es h=>⟨es,h⟩⟩
theorem zzZ (hm:Mem c N w0 O0 L w) {k n i o:Nat} {T:Tb} {cs els:List D} (hT:za6 L k=some (true,T)) (hver:(L (tb k)).1=n) (hi:T[i]? =some cs) (hc:cs[o]? =some (.sl .own els)):
  Mem c N w0 O0 (L.upd [(tb k,(n,.tbl true (T.set i (cs.set o .undef))))]) w∧Grow c L w c (L.upd [(tb k,(n,.tbl true (T.set i (cs.set o .undef))))]) w:=by
 obtain ⟨b,x,ty,fz,q1,q2,q3,q4,q5⟩:=hm.tab.obj k true T i cs hT hi;have hbO:c.O b:=hm.tab.wr k T i none b hT ⟨true,T,hT,za3 hi⟩ q1
 exact Mem.tab_upd hm hT (kl:=[]) (by simp) (c':=c) rfl rfl (fun _ h=>h) (fun _ h=>.inl h) hbO rfl (fun _ _=>rfl) (fun y T fz h=>⟨y,fz,h,rfl⟩) rfl rfl rfl (ver:=n) (by omega) (fun _=>⟨ztY hi,fun _ _ _=>rfl⟩) (fun _ _ _ _=>rfl)
  (hm.tab.clear hT hi hc (fun k'=>ziK) rfl rfl (fun _ h=>h) (fun _ h _=>h) (fun _ _=>rfl))
theorem zCc (hm:Mem c N w0 O0 L w) {k n i o t cap:Nat} {T:Tb} {cs els xs:List D} {b:Nat} {x:Array Value} {ty:TypeId} {fz:Nat×Nat} {vs:Nat→Value} {new:Array Value} (ht0:t < 100000)
  (hT:za6 L k=some (true,T)) (hver:(L (tb k)).1=n) (hi:T[i]? =some cs) (hc:cs[o]? =some (.sl .own els)) (hρ:c.ρ k i o=some b) (hb:w.heap[b]? =some (.cells x ty fz)) (hf:Unfrozen w b x.size) (hcap:cap*zcS k o≤x.size) (hle:els.length+xs.length≤cap)
  (hels:∀ (j:Nat) (d:D),els[j]? =some d→d.flatEl=true∧Rep w (fun _=>False) 0 c.γ d (vs j)∧d.width=zcS k o∧(vs j).cells.size=zcS k o∧zdZ w b (j*zcS k o) (vs j))
  (hr:zfU w (own c L) N c.γ (zcS k o) xs new) (hnew:new.size=xs.length*zcS k o):
  Did c N w0 O0 L w { v:=.ref t (L.new t) 0 (els.length+xs.length),wr:=[(tb k,(n,.tbl true (T.set i (cs.set o .undef)))),(t,(L.new t,.trow (zcS k o) (els++xs)))] } (.slice (some ⟨b,0,none⟩) (els.length+xs.length) cap)
   (put w b (splice x (els.length*zcS k o) new.toList) ty fz):=by
 generalize hsz0:zcS k o=sz at*
 have hth:zcq L k i (some o):=⟨true,T,_,hT,by unfold zdc; rw [hi]; exact hc,rfl⟩
 have hbO:c.O b:=hm.tab.wr k T i (some o) b hT hth hρ
 have hroom:els.length*sz+new.toList.length≤x.size:=by
  have:(els.length+xs.length)*sz≤cap*sz:=Nat.mul_le_mul_right _ hle;rw [Nat.add_mul] at this;simp; omega
 have hsz:(splice x (els.length*sz) new.toList).size=x.size:=zc0 hroom
 have hw:∀ q,q≠b→(put w b (splice x (els.length*sz) new.toList) ty fz).heap[q]? =w.heap[q]? :=fun q hq=>by rw [zcy (zbd hb)]; simp [hq]
 have hbb:(put w b (splice x (els.length*sz) new.toList) ty fz).heap[b]? =some (.cells (splice x (els.length*sz) new.toList) ty fz):=by rw [zcy (zbd hb)]; simp
 have hps:(put w b (splice x (els.length*sz) new.toList) ty fz).heap.size=w.heap.size:=by simp [put]
 let L2:Loc:=(L.set (tb k) (n,.tbl true (T.set i (cs.set o .undef)))).set t (L.new t,.trow sz (els++xs));have htk:tb k≠t:=zkj ht0;have h2t:L2 t=(L.new t,.trow sz (els++xs)):=Loc.set_same _ _ _
 have h2k:L2 (tb k)=(n,.tbl true (T.set i (cs.set o .undef))):=by show ((L.set (tb k) _).set t _) (tb k)=_; rw [Loc.set_ne _ _ htk,Loc.set_same]
 have h2:∀ q,q≠t→q≠tb k→L2 q=L q:=fun q e e'=>by show ((L.set (tb k) _).set t _) q=_; rw [Loc.set_ne _ _ e,Loc.set_ne _ _ e']
 let c2:Ctx:={ c.at t (some b) with O:=fun b'=>c.O b'∧b'≠b }
 have hc2t:c2.ι t=some b:=by simp [c2,Ctx.at]
 have hc2:∀ q,q≠t→c2.ι q=c.ι q:=fun q e=>by simp [c2,Ctx.at,e]
 have hkd:(L (tb k)).2=.tbl true T:=zed.1 hT
 have hg:Grow c L w c2 L2 (put w b (splice x (els.length*sz) new.toList) ty fz):=by
  refine ⟨by omega,?_,?_,fun _ _ _ h=>h,fun _ _ _ _ _=>rfl,zrm hT (fun q e=>h2 _ (zkj ht0) (fun h=>e (zfq h))) (fun _ _=>rfl) (fun _ _=>rfl),?_,?_,?_⟩
  ·intro q hq _
   refine hw q fun e=>hq (.inl (e ▸ hbO))
  ·rintro q _ (hO | ⟨g',q1,q2⟩)
   ·exact .inl hO.1
   ·by_cases e:g'=t
    ·subst e; rw [hc2t] at q1; cases q1; exact .inl hbO
    ·by_cases e':g'=tb k
     ·subst e'; rw [h2k] at q2; cases q2
     ·rw [h2 g' e e'] at q2
      exact .inr ⟨g',by rw [←hc2 g' e]; exact q1,q2⟩
  ·intro q y T' fz' hq _
   by_cases e:q=b
   ·subst e; rw [hb] at hq; cases hq; exact ⟨_,_,hbb,hsz⟩
   ·exact ⟨y,fz',by rw [hw q e]; exact hq,rfl⟩
  ·intro q
   by_cases e:q=t
   ·subst e; rw [h2t]; simp [Loc.new]
   ·by_cases e':q=tb k
    ·subst e'; rw [h2k]; exact Nat.le_of_eq hver
    ·rw [h2 q e e']; exact Nat.le_refl _
  ·intro q hq
   by_cases e:q=t
   ·subst e; rw [h2t] at hq; simp [Loc.new] at hq
   ·by_cases e':q=tb k
    ·subst e'; rw [h2k,hkd,hc2 _ e]; exact .inr ⟨rfl,rfl,ztY hi⟩
    ·rw [h2 q e e',hc2 q e]; exact .inr ⟨rfl,zb1.refl _⟩
 have hnd:∀ q,q≠t→(L2 q).2≠.dead→(L q).2≠.dead:=by
  intro q e hq
  by_cases e':q=tb k
  ·subst e'; rw [hkd]; simp
  ·rw [h2 q e e'] at hq; exact hq
 have hmm:Mem c2 N w0 O0 L2 (put w b (splice x (els.length*sz) new.toList) ty fz):=by
  refine ⟨?_,?_,?_,?_,?_,?_,?_,by rw [hps]; exact hm.size,hm.size0,hm.os,hm.tape,hm.output,?_,fun y hy=>by rw [hps]; exact hm.osub y hy.1⟩
  ·intro q
   by_cases e:q=t
   ·subst e;rw [hc2t,h2t];obtain ⟨vs',hvs⟩:=hr
    refine ⟨_,ty,fz,hbb,hf.put hb (by omega),?_,fun i=>if i < els.length then vs i else vs' (i - els.length),fun i d hd=>?_⟩
    ·rw [hsz,List.length_append];exact Nat.le_trans (Nat.mul_le_mul_right _ hle) hcap
    ·by_cases hi':i < els.length
     ·rw [List.getElem?_append_left (by omega)] at hd
      obtain ⟨f1,p1,f2,p2,p3⟩:=hels i d hd;simp only [hi',if_true]
      refine ⟨p1.flEl f1 fun _ _ _ h=>h,p2,fun q u hu=>?_⟩
      have hq:q < sz:=by have:=zdd hu; omega
      rw [zgo hb,zcx hroom,if_neg]
      ·have:=p3 q u hu;simpa [World.cell?,hb] using this
      ·have:(i+1)*sz≤els.length*sz:=Nat.mul_le_mul_right _ hi';rw [Nat.succ_mul] at this; omega
     ·rw [List.getElem?_append_right (by omega)] at hd
      obtain ⟨p1,p2,p3⟩:=hvs (i - els.length) d hd;simp only [hi',if_false]
      refine ⟨p1.grow hg,p2,fun q u hu=>?_⟩
      have h3:=p3 q u hu;have hj:=za3 hd
      have hq:q < sz:=by have:=zdd hu; omega
      have hi2:i*sz=els.length*sz+(i - els.length)*sz:=by rw [←Nat.add_mul]; congr 1; omega
      have hlt:(i - els.length)*sz+q < xs.length*sz:=by
       have:(i - els.length+1)*sz≤xs.length*sz:=Nat.mul_le_mul_right _ hj;rw [Nat.succ_mul] at this; omega
      rw [zgo hb,zcx hroom,if_pos (by simp; omega),show i*sz+q - els.length*sz=(i - els.length)*sz+q by omega]
      simpa using h3
   ·rw [hc2 q e]
    by_cases e':q=tb k
    ·subst e'; rw [h2k]; trivial
    ·rw [h2 q e e']
     exact (hm.obj q).grow hg fun y hy hd=>hw y fun e3=>(hm.mine q y hy hd).2.2 (e3 ▸ hbO)
  ·intro q q' y q1 q2 q3 q4
   by_cases e:q=t<;>by_cases e':q'=t
   ·rw [e,e']
   ·subst e;rw [hc2t] at q1; cases q1;rw [hc2 q' e'] at q2;exact absurd hbO (hm.mine q' b q2 (hnd q' e' q4)).2.2
   ·subst e';rw [hc2t] at q2; cases q2;rw [hc2 q e] at q1;exact absurd hbO (hm.mine q b q1 (hnd q e q3)).2.2
   ·rw [hc2 q e] at q1; rw [hc2 q' e'] at q2;exact hm.inj q q' y q1 q2 (hnd q e q3) (hnd q' e' q4)
  ·intro q y q1 q2;rw [hps]
   by_cases e:q=t
   ·subst e; rw [hc2t] at q1; cases q1;obtain ⟨a1,a2⟩:=hm.osub b hbO
    exact ⟨a2.symm,a1,fun h=>h.2 rfl⟩
   ·rw [hc2 q e] at q1;obtain ⟨a1,a2,a3⟩:=hm.mine q y q1 (hnd q e q2)
    exact ⟨a1,a2,fun h=>a3 h.1⟩
  ·intro q y q1 q2 q3
   by_cases e:q=t
   ·subst e; rw [h2t] at q3; exact absurd rfl (q3 _ _)
   ·rw [hc2 q e] at q1
    refine hm.mineN q y q1 (hnd q e q2) fun sz' els' e2=>?_
    by_cases e':q=tb k
    ·subst e'; rw [hkd] at e2; cases e2
    ·rw [h2 q e e'] at q3; exact q3 _ _ e2
  ·refine hm.tab.clear hT hi hc (fun k'=>?_) rfl rfl (fun _ h=>h.1) (fun b' h1 h2=>⟨h1,fun e=>h2 (by rw [e]; exact hρ)⟩) (fun q hq=>hw q fun e=>hq (by rw [e]; exact hρ))
   show za6 L2 k'=_
   rw [show za6 L2 k'=za6 (L.set (tb k) (n,.tbl true (T.set i (cs.set o .undef)))) k' from zby (Loc.set_ne _ _ (zkj ht0))]
   exact ziK
  ·intro k'; rw [hc2 _ (zkj ht0)]; exact hm.iotab k'
  ·intro k'
   by_cases e:k'=k
   ·subst e; rw [h2k]; exact .inr ⟨_,_,rfl⟩
   ·rw [h2 _ (zkj ht0) (fun h=>e (zfq h))]; exact hm.only k'
  ·intro y hy hO
   rw [hw y fun e=>?_]
   ·exact hm.keep y hy hO
   ·subst e;rcases (hm.osub _ hbO).2 with h | h
    ·exact hO h
    ·omega
 refine ⟨c2,hmm,hg,?_⟩
 have:=zqa.val (c:=c2) (L:=L2) (w:=put w b (splice x (els.length*sz) new.toList) ty fz) (N:=N) (sz:=sz) (els:=els++xs) (z:=.trow sz (els++xs)) (u:=.slice (some ⟨b,0,none⟩) (els.length+xs.length) cap) (.inr rfl) h2t (by
  refine ⟨_,cap,by rw [List.length_append],by simpa using hle,?_⟩
  by_cases hc0:cap=0
  ·exact .inl hc0
  ·exact .inr ⟨b,_,ty,fz,hc2t,by simp,hbb,by rw [hsz]; simpa using hcap⟩)
 rw [List.length_append] at this;exact this
theorem zz0 (hm:Mem c N w0 O0 L w) {g n t sz len cap:Nat} {els xs:List D} {b:Nat} {x:Array Value} {T:TypeId} {fz:Nat×Nat} {new:Array Value} (ht0:t < 100000)
  (hL:L.get g n=.arr sz els true) (hι:c.ι g=some b) (hb:w.heap[b]? =some (.cells x T fz)) (hlen:len=els.length) (hcap:cap*sz≤x.size) (hle:len+xs.length≤cap)
  (hr:zfU w (own c L) N c.γ sz xs new) (hnew:new.size=xs.length*sz) (hgs:g < 90000):
  Did c N w0 O0 L w { v:=.ref t (L.new t) 0 (len+xs.length),wr:=[(g,(n,.dead)),(t,(L.new t,.arr sz (els++xs) true))] } (.slice (some ⟨b,0,none⟩) (len+xs.length) cap)
   (put w b (splice x (len*sz) new.toList) T fz):=by
 obtain ⟨e1,e2⟩:=zbM hL (by simp)
 have hob:=hm.get hL (by simp)
 rw [hι] at hob;obtain ⟨x',T',fz',g2,g3,g4,us,g5⟩:=hob;rw [hb] at g2; cases g2
 have hmine:=hm.mine g b hι (by rw [e2]; simp)
 have hmineN:=hm.mineN g b hι (by rw [e2]; simp) (by rw [e2]; simp) hgs
 have hroom:len*sz+new.toList.length≤x.size:=by
  have:(len+xs.length)*sz≤cap*sz:=Nat.mul_le_mul_right _ hle;rw [Nat.add_mul] at this;simp; omega
 have hsz:(splice x (len*sz) new.toList).size=x.size:=zc0 hroom
 have hw:∀ k,k≠b→(put w b (splice x (len*sz) new.toList) T fz).heap[k]? =w.heap[k]? :=fun k hk=>by rw [zcy (zbd hb)]; simp [hk]
 have hbb:(put w b (splice x (len*sz) new.toList) T fz).heap[b]? =some (.cells (splice x (len*sz) new.toList) T fz):=by rw [zcy (zbd hb)]; simp
 have hps:(put w b (splice x (len*sz) new.toList) T fz).heap.size=w.heap.size:=by simp [put]
 let L2:Loc:=(L.set g (n,.dead)).set t (L.new t,.arr sz (els++xs) true);have h2t:L2 t=(L.new t,.arr sz (els++xs) true):=Loc.set_same _ _ _
 have h2g:g≠t→L2 g=(n,.dead):=fun e=>by show ((L.set g (n,.dead)).set t _) g=_; rw [Loc.set_ne _ _ e,Loc.set_same]
 have h2:∀ k,k≠t→k≠g→L2 k=L k:=fun k e e'=>by show ((L.set g (n,.dead)).set t _) k=_; rw [Loc.set_ne _ _ e,Loc.set_ne _ _ e']
 let c2:Ctx:=c.at t (some b)
 have hc2t:c2.ι t=some b:=by simp [c2,Ctx.at]
 have hc2:∀ k,k≠t→c2.ι k=c.ι k:=fun k e=>by simp [c2,Ctx.at,e]
 have hold:∀ k,(L2 k).2≠.dead→k≠t→(L k).2≠.dead∧k≠g:=by
  intro k hk e
  by_cases e':k=g
  ·subst e'; rw [h2g e] at hk; exact absurd rfl hk
  ·rw [h2 k e e'] at hk; exact ⟨hk,e'⟩
 have hg:Grow c L w c2 L2 (put w b (splice x (len*sz) new.toList) T fz):=by
  refine ⟨by omega,?_,?_,fun _ _ _ h=>h,fun _ _ _ _ _=>rfl,zrl (fun k=>h2 _ (zkj ht0) (hm.live_tab (by rw [e2]; rfl) k)) rfl rfl,?_,?_,?_⟩
  ·intro k hk _
   refine hw k fun e=>hk (.inr ⟨g,by rw [e]; exact hι,by rw [e2]; rfl⟩)
  ·rintro k _ (hO | ⟨g',q1,q2⟩)
   ·exact .inl hO
   ·by_cases e:g'=t
    ·subst e; rw [hc2t] at q1; cases q1
     exact .inr ⟨g,hι,by rw [e2]; rfl⟩
    ·have hd:(L2 g').2≠.dead:=by intro e'; rw [e'] at q2; cases q2
     obtain ⟨_,e'⟩:=hold g' hd e;rw [h2 g' e e'] at q2
     exact .inr ⟨g',by rw [←hc2 g' e]; exact q1,q2⟩
  ·intro k y T' fz' hk _
   by_cases e:k=b
   ·subst e; rw [hb] at hk; cases hk; exact ⟨_,_,hbb,hsz⟩
   ·exact ⟨y,fz',by rw [hw k e]; exact hk,rfl⟩
  ·intro k
   by_cases e:k=t
   ·subst e; rw [h2t]; simp [Loc.new]
   ·by_cases e':k=g
    ·subst e'; rw [h2g e]; simp [e1]
    ·rw [h2 k e e']; exact Nat.le_refl _
  ·intro k hk
   by_cases e:k=t
   ·subst e; rw [h2t] at hk; simp [Loc.new] at hk
   ·by_cases e':k=g
    ·subst e'; rw [h2g e]; exact .inl rfl
    ·rw [h2 k e e',hc2 k e]; exact .inr ⟨rfl,zb1.refl _⟩
 have hmm:Mem c2 N w0 O0 L2 (put w b (splice x (len*sz) new.toList) T fz):=by
  refine ⟨?_,?_,?_,?_,?_,?_,?_,by rw [hps]; exact hm.size,hm.size0,hm.os,hm.tape,hm.output,?_,fun y hy=>by rw [hps]; exact hm.osub y hy⟩
  ·intro k
   by_cases e:k=t
   ·subst e;rw [hc2t,h2t];obtain ⟨vs,hvs⟩:=hr
    refine ⟨_,T,fz,hbb,g3.put hb (by omega),?_,fun i=>if i < len then us i else vs (i - len),fun i d hd=>?_⟩
    ·rw [hsz,List.length_append,←hlen];exact Nat.le_trans (Nat.mul_le_mul_right _ hle) hcap
    ·by_cases hi:i < len
     ·rw [List.getElem?_append_left (by omega)] at hd
      obtain ⟨p1,p2,p3⟩:=g5 i d hd;simp only [hi,if_true]
      refine ⟨p1.grow hg,p2,fun q u hu=>?_⟩
      have hq:q < sz:=by
       rcases Nat.lt_or_ge q (us i).cells.size with h' | h'
       ·omega
       ·rw [Array.getElem?_eq_none h'] at hu; cases hu
      rw [zgo hb,zcx hroom,if_neg]
      ·have:=p3 q u hu;simpa [World.cell?,hb] using this
      ·have:(i+1)*sz≤len*sz:=Nat.mul_le_mul_right _ hi;rw [Nat.succ_mul] at this; omega
     ·rw [List.getElem?_append_right (by omega),←hlen] at hd
      obtain ⟨p1,p2,p3⟩:=hvs (i - len) d hd;simp only [hi,if_false]
      refine ⟨p1.grow hg,p2,fun q u hu=>?_⟩
      have h3:=p3 q u hu
      have hj:i - len < xs.length:=by
       rcases Nat.lt_or_ge (i - len) xs.length with h' | h'
       ·exact h'
       ·rw [List.getElem?_eq_none h'] at hd; cases hd
      have hq:q < sz:=by
       rcases Nat.lt_or_ge q (vs (i - len)).cells.size with h' | h'
       ·omega
       ·rw [Array.getElem?_eq_none h'] at hu; cases hu
      have hi2:i*sz=len*sz+(i - len)*sz:=by rw [←Nat.add_mul]; congr 1; omega
      have hlt:(i - len)*sz+q < xs.length*sz:=by
       have:(i - len+1)*sz≤xs.length*sz:=Nat.mul_le_mul_right _ hj;rw [Nat.succ_mul] at this; omega
      rw [zgo hb,zcx hroom,if_pos (by simp; omega),show i*sz+q - len*sz=(i - len)*sz+q by omega]
      simpa using h3
   ·rw [hc2 k e]
    by_cases e':k=g
    ·subst e'; rw [h2g e]; trivial
    ·rw [h2 k e e']
     exact (hm.obj k).grow hg fun y hy hd=>hw y fun e3=>e' (hm.inj k g b (by rw [←e3]; exact hy) hι hd (by rw [e2]; simp))
  ·intro k k' y q1 q2 q3 q4
   by_cases e:k=t<;>by_cases e':k'=t
   ·rw [e,e']
   ·subst e;rw [hc2t] at q1; cases q1;obtain ⟨p1,p2⟩:=hold k' q4 e';rw [hc2 k' e'] at q2
    exact absurd (hm.inj k' g b q2 hι p1 (by rw [e2]; simp)) p2
   ·subst e';rw [hc2t] at q2; cases q2;obtain ⟨p1,p2⟩:=hold k q3 e;rw [hc2 k e] at q1
    exact absurd (hm.inj k g b q1 hι p1 (by rw [e2]; simp)) p2
   ·rw [hc2 k e] at q1; rw [hc2 k' e'] at q2;exact hm.inj k k' y q1 q2 (hold k q3 e).1 (hold k' q4 e').1
  ·intro k y q1 q2;rw [hps]
   by_cases e:k=t
   ·subst e; rw [hc2t] at q1; cases q1; exact hmine
   ·rw [hc2 k e] at q1; exact hm.mine k y q1 (hold k q2 e).1
  ·intro k y q1 q2 q3
   by_cases e:k=t
   ·subst e; rw [hc2t] at q1; cases q1; exact fun _=>hmineN
   ·rw [hc2 k e] at q1;obtain ⟨p1,p2⟩:=hold k q2 e;rw [h2 k e p2] at q3;exact hm.mineN k y q1 p1 q3
  ·refine hm.tab.stable (fun k=>h2 _ (zkj ht0) (hm.live_tab (by rw [e2]; rfl) k)) rfl rfl rfl fun k i q y hq hy=>hw y ?_
   rintro rfl
   exact hm.not_tab hq hy hmine.1 hmine.2.2
  ·intro k; rw [hc2 _ (zkj ht0)]; exact hm.iotab k
  ·intro k; rw [h2 _ (zkj ht0) (hm.live_tab (by rw [e2]; rfl) k)]; exact hm.only k
  ·intro y hy hO; rw [hw y (by omega)]; exact hm.keep y hy hO
 refine ⟨c2,hmm,hg,?_⟩
 have:=zqa.val (c:=c2) (L:=L2) (w:=put w b (splice x (len*sz) new.toList) T fz) (N:=N) (sz:=sz) (els:=els++xs) (z:=.arr sz (els++xs) true) (u:=.slice (some ⟨b,0,none⟩) (len+xs.length) cap) (.inl rfl) h2t (by
  refine ⟨_,cap,by rw [List.length_append,hlen],by simp; omega,?_⟩
  by_cases hc0:cap=0
  ·exact .inl hc0
  ·exact .inr ⟨b,_,T,fz,hc2t,by simp,hbb,by rw [hsz]; simpa using hcap⟩)
 rw [List.length_append,←hlen] at this;exact this
theorem zw8 (t sz:Nat) (a:Option Addr) {wr:Wr} {z:HObj} (hz:zqa sz [] z) (ht0:t < 100000) (hm':Mem c N w0 O0 (L.upd wr) w) (hg':Grow c L w c (L.upd wr) w) (ht:(L.upd wr t).1 < L.new t):
  Did c N w0 O0 L w { v:=.ref t (L.new t) 0 0,wr:=wr++[(t,(L.new t,z))] } (.slice a 0 0) w:=by
 let L1:=L.upd wr;let L2:=L1.set t (L.new t,z);have h2t:L2 t=(L.new t,z):=Loc.set_same _ _ _
 have h2:∀ k,k≠t→L2 k=L1 k:=fun k e=>Loc.set_ne _ _ e
 let c2:Ctx:=c.at t none
 have hc2t:c2.ι t=none:=by simp [c2,Ctx.at]
 have hc2:∀ k,k≠t→c2.ι k=c.ι k:=fun k e=>by simp [c2,Ctx.at,e]
 have hg:Grow c L1 w c2 L2 w:=by
  refine ⟨Nat.le_refl _,fun _ _ _=>rfl,?_,fun _ _ _ h=>h,fun _ _ _ _ _=>rfl,zrl (fun k=>h2 _ (zkj ht0)) rfl rfl,fun _ y _ fz h _=>⟨y,fz,h,rfl⟩,?_,?_⟩
  ·rintro k _ (hO | ⟨g',q1,q2⟩)
   ·exact .inl hO
   ·by_cases e:g'=t
    ·subst e; rw [hc2t] at q1; cases q1
    ·rw [h2 g' e] at q2; exact .inr ⟨g',by rw [←hc2 g' e]; exact q1,q2⟩
  ·intro k
   by_cases e:k=t
   ·subst e; rw [h2t]; exact Nat.le_of_lt ht
   ·rw [h2 k e]; exact Nat.le_refl _
  ·intro k hk
   by_cases e:k=t
   ·subst e; rw [h2t] at hk; have:(L1 k).1 < L.new k:=ht; simp at hk; omega
   ·rw [h2 k e,hc2 k e]; exact .inr ⟨rfl,zb1.refl _⟩
 refine ⟨c2,?_,?_,?_⟩
 ·rw [Loc.upd_append];show Mem c2 N w0 O0 L2 w
  refine ⟨?_,?_,?_,?_,hm'.tab.stable (fun k=>h2 _ (zkj ht0)) rfl rfl rfl fun _ _ _ _ _ _=>rfl,fun k=>by rw [hc2 _ (zkj ht0)]; exact hm'.iotab k,fun k=>by rw [h2 _ (zkj ht0)]; exact hm'.only k,hm'.size,hm'.size0,hm'.os,hm'.tape,hm'.output,hm'.keep,hm'.osub⟩
  ·intro k
   by_cases e:k=t
   ·subst e; rw [hc2t,h2t]; exact hz.ok.2 rfl
   ·rw [hc2 k e,h2 k e]; exact (hm'.obj k).grow hg fun _ _ _=>rfl
  ·intro k k' y q1 q2 q3 q4
   by_cases e:k=t
   ·subst e; rw [hc2t] at q1; cases q1
   ·by_cases e':k'=t
    ·subst e'; rw [hc2t] at q2; cases q2
    ·rw [hc2 k e] at q1; rw [hc2 k' e'] at q2;rw [h2 k e] at q3; rw [h2 k' e'] at q4;exact hm'.inj k k' y q1 q2 q3 q4
  ·intro k y q1 q2
   by_cases e:k=t
   ·subst e; rw [hc2t] at q1; cases q1
   ·rw [hc2 k e] at q1;rw [h2 k e] at q2;exact hm'.mine k y q1 q2
  ·intro k y q1 q2 q3
   by_cases e:k=t
   ·subst e; rw [hc2t] at q1; cases q1
   ·rw [hc2 k e] at q1;rw [h2 k e] at q2 q3;exact hm'.mineN k y q1 q2 q3
 ·rw [Loc.upd_append]; exact hg'.trans hg
 ·rw [Loc.upd_append];exact hz.val (L:=L2) h2t ⟨a,0,rfl,Nat.le_refl _,.inl rfl⟩
theorem zvi (t sz:Nat) (a:Option Addr) {wr:Wr} (ht0:t < 100000) (hm':Mem c N w0 O0 (L.upd wr) w) (hg':Grow c L w c (L.upd wr) w) (ht:(L.upd wr t).1 < L.new t):
  Did c N w0 O0 L w { v:=.ref t (L.new t) 0 0,wr:=wr++[(t,(L.new t,.arr sz [] true))] } (.slice a 0 0) w:=
 zw8 t sz a (.inl rfl) ht0 hm' hg' ht
end
end Wf

namespace Wf
open Go Go.RowKit
section
variable {c:Ctx} {N:Nat} {w0:World} {O0:Nat→Prop} {L Lr:Loc} {w:World}
theorem zhl {P:Program} {ty ty2 rty e sz sLen sCap n:Nat} {a:Option Addr} {u:Value} {new:Array Value} {i:TypeInfo} (hu:P.underlying ty=some (.slice e)) (hi:P.info? e=some i) (hs:i.size=sz)
  (h2:(zcw P ty2).isSome) (hl:Builtin.lenOf u=pure n) (hf:(Builtin.firstCells sz n u).run P w=.ok new w) (hle:sLen+n≤sCap) {w':World}
  (hst:match a with | some a=>(storeCells (a.add (sLen*sz)) new.toList).run P w=.ok () w' | none=>w'=w):
  (Builtin.append_ #[ty,ty2] rty #[.slice a sLen sCap,u]).run P w=.ok (.slice a (sLen+n) sCap) w':=by
 obtain ⟨sz2,hsz2⟩:=Option.isSome_iff_exists.1 h2;obtain ⟨e2,hu2,_⟩:=zmY hsz2
 have hsize:∀ w,(Go.sizeOf e).run P w=.ok sz w:=fun w=>zdI (by unfold zb9; simp [hi,hs]) w
 unfold Builtin.append_;simp [zbt hu,zbt hu2,hsize,hl,hle,hf]
 cases a with
 | none=>simp at hst; simp [hst]
 | some a=>simp at hst; simp [hst]
theorem zju {P:Program} {ty ty2 rty e sz sLen sCap n:Nat} {a:Option Addr} {u zv:Value} {old new:Array Value} {i:TypeInfo} (hu:P.underlying ty=some (.slice e)) (hi:P.info? e=some i) (hs:i.size=sz)
  (hz:i.zero=some zv) (hzs:zv.cells.size=sz) (hb:i.bytes≤4096) (hn:sLen+n≤2 ^ 32)
  (h2:(zcw P ty2).isSome) (hl:Builtin.lenOf u=pure n) (hold:∀ k,(Builtin.firstCells sz sLen (.slice a sLen sCap)).run P (w.drewN k)=.ok old (w.drewN k))
  (hnew:∀ k,(Builtin.firstCells sz n u).run P (w.drewN k)=.ok new (w.drewN k)) (hgt:sCap < sLen+n) (ho1:old.size=sLen*sz) (hn1:new.size=n*sz):
  ∃ cap x,sLen+n≤cap∧x.size=cap*sz∧(∀ k,k < (sLen+n)*sz→x[k]? =(old++new)[k]?)∧
   (Builtin.append_ #[ty,ty2] rty #[.slice a sLen sCap,u]).run P w=.ok (.slice (some ⟨w.heap.size,0,none⟩) (sLen+n) cap) (w.drew.alloc (.cells x e)):=by
 obtain ⟨sz2,hsz2⟩:=Option.isSome_iff_exists.1 h2;obtain ⟨e2,hu2,_⟩:=zmY hsz2
 have hsize:∀ w,(Go.sizeOf e).run P w=.ok sz w:=fun w=>zdI (by unfold zb9; simp [hi,hs]) w
 have hinfo:∀ w,(typeInfo e).run P w=.ok i w:=fun w=>by simp [typeInfo,hi]
 have hzero:∀ w,(zeroValue e).run P w=.ok zv w:=fun w=>by simp [zeroValue,hinfo,hz]
 have hcap:=zkG (sLen+n) sCap hgt
 have hbig:¬ (Builtin.nextslicecap (sLen+n) sCap*i.bytes > 2 ^ 48):=by
  have h1:Builtin.nextslicecap (sLen+n) sCap*i.bytes≤(2*2 ^ 32+2000)*4096:=Nat.mul_le_mul (by omega) hb
  have h2:(2*2 ^ 32+2000)*4096≤2 ^ 48:=by decide
  omega
 let cap:=sLen+n+w.tape w.drawn (.appendCap (sLen+n) sCap e) % (2 ^ 63 - (sLen+n))
 have hnot:¬ (sLen+n≤sCap):=by omega
 have hmax:¬ (((sLen+n:Nat):Int) > IntKind.i64.max∧(false=true∨i.bytes=0)):=by
  rintro ⟨h,_⟩
  have:IntKind.i64.max=9223372036854775807:=by decide
  rw [this] at h; omega
 have hold1:=hold 1;have hnew1:=hnew 1;refine ⟨cap,old++new++Builtin.zeroCells zv.cells (cap - (sLen+n)),Nat.le_add_right _ _,?_,?_,?_⟩
 ·simp [Builtin.zeroCells,ho1,hn1,hzs];rw [←Nat.add_mul,←Nat.add_mul]; congr 1; have:sLen+n≤cap:=Nat.le_add_right _ _; omega
 ·intro k hk;rw [Array.getElem?_append_left];rw [Nat.add_mul] at hk; simp [ho1,hn1]; exact hk
 ·have hd:w.drewN 1=w.drew:=rfl;rw [hd] at hold1 hnew1
  have hA:¬ ((9223372036854775807:Int) < ↑sLen+↑n):=by omega
  have hB:¬ (281474976710656 < Builtin.nextslicecap (sLen+n) sCap*i.bytes):=hbig;have hF:(Question.appendCap (sLen+n) sCap e).forced=false:=rfl;have hC:(Question.appendCap (sLen+n) sCap e).cut (w.tape w.drawn (.appendCap (sLen+n) sCap e))=cap:=rfl;unfold Builtin.append_;simp [zbt hu,zbt hu2,hsize,hl,hnot,hinfo,hA,hB,hF,hC,hold1,hnew1,hzero,newRow]
theorem zfU.append {w:World} {A:Nat→Prop} {N:Nat} {γ:Nat→Nat→Option Nat} {sz:Nat} {a b:List D} {x y z:Array Value} (h:zfU w A N γ sz a x) (k:zfU w A N γ sz b y)
  (hx:x.size=a.length*sz) (hy:y.size=b.length*sz) (hz:∀ k,k < (a.length+b.length)*sz→z[k]? =(x++y)[k]?):zfU w A N γ sz (a++b) z:=by
 obtain ⟨us,hu⟩:=h;obtain ⟨vs,hv⟩:=k
 refine ⟨fun i=>if i < a.length then us i else vs (i - a.length),fun i d hd=>?_⟩
 by_cases hi:i < a.length
 ·rw [List.getElem?_append_left hi] at hd;obtain ⟨p1,p2,p3⟩:=hu i d hd;simp only [hi,if_true]
  refine ⟨p1,p2,fun q u hq=>?_⟩
  have hqs:q < sz:=by
   rcases Nat.lt_or_ge q (us i).cells.size with h' | h'
   ·omega
   ·rw [Array.getElem?_eq_none h'] at hq; cases hq
  have hlt:i*sz+q < a.length*sz:=by
   have:(i+1)*sz≤a.length*sz:=Nat.mul_le_mul_right _ hi;rw [Nat.succ_mul] at this; omega
  rw [hz _ (by rw [Nat.add_mul]; omega),Array.getElem?_append_left (by omega)]
  exact p3 q u hq
 ·rw [List.getElem?_append_right (by omega)] at hd
  obtain ⟨p1,p2,p3⟩:=hv _ d hd;simp only [hi,if_false]
  refine ⟨p1,p2,fun q u hq=>?_⟩
  have hj:i - a.length < b.length:=by
   rcases Nat.lt_or_ge (i - a.length) b.length with h' | h'
   ·exact h'
   ·rw [List.getElem?_eq_none h'] at hd; cases hd
  have hqs:q < sz:=by
   rcases Nat.lt_or_ge q (vs (i - a.length)).cells.size with h' | h'
   ·omega
   ·rw [Array.getElem?_eq_none h'] at hq; cases hq
  have hi2:i*sz=a.length*sz+(i - a.length)*sz:=by rw [←Nat.add_mul]; congr 1; omega
  have hlt:(i - a.length)*sz+q < b.length*sz:=by
   have:(i - a.length+1)*sz≤b.length*sz:=Nat.mul_le_mul_right _ hj;rw [Nat.succ_mul] at this; omega
  rw [hz _ (by rw [Nat.add_mul]; omega),Array.getElem?_append_right (by omega),hx,show i*sz+q - a.length*sz=(i - a.length)*sz+q by omega]
  exact p3 q u hq
theorem zfU.grow {c L w c' L' w'} (h:Grow c L w c' L' w') {N sz:Nat} {els:List D} {x:Array Value} (hr:zfU w (own c L) N c.γ sz els x):zfU w' (own c' L') N c'.γ sz els x:=by
 obtain ⟨vs,hv⟩:=hr
 exact ⟨vs,fun i d hd=>⟨((hv i d hd).1).grow h,(hv i d hd).2.1,(hv i d hd).2.2⟩⟩
theorem zfU.nil {w:World} {A:Nat→Prop} {N:Nat} {γ:Nat→Nat→Option Nat} {sz:Nat} {x:Array Value}:zfU w A N γ sz [] x:=⟨fun _=>undef,by simp⟩
theorem Did.drew {out:Out} {u:Value} {w':World} (hg:Grow c L w c L w.drew) (h:Did c N w0 O0 L w.drew out u w'):Did c N w0 O0 L w out u w':=by
 obtain ⟨c',h1,h2,h3⟩:=h;exact ⟨c',h1,hg.trans h2,h3⟩
theorem zAZ {P:Program} (hm:Mem c N w0 O0 L w) (hs:Sees Lr L) {t:Nat} (ht0:t < 100000) (hnew:Lr t=L t) {ty ty2 rty:TypeId} {s x:V} {su xu:Value} {o:Out} (ha:zrj P Lr t ty s x=some o)
  (h2:(zcw P ty2).isSome) (hv:Val c L w N s su) (hx:Val c L w N x xu):
  ∃ u w',(Builtin.append_ #[ty,ty2] rty #[su,xu]).run P w=.ok u w'∧Did c N w0 O0 L w o u w':=by
 have hnew':Lr.new t=L.new t:=by unfold Loc.new; rw [hnew]
 unfold zrj at ha;rw [hnew'] at ha
 cases hxs:zdH Lr x with
 | none=>rw [hxs] at ha; cases ha
 | some xs=>
 rw [hxs] at ha;dsimp only at ha;obtain ⟨xa,xcap,rfl,_,_⟩:=ztW hm hs hxs hx;have hlen:Builtin.lenOf (.slice xa xs.length xcap)=pure xs.length:=rfl
 have htlt:(L t).1 < L.new t:=by simp [Loc.new]
 obtain ⟨hdm,hdg⟩:=Mem.drew hm
 have base:∀ a,su=.slice a 0 0→((zcK P ty xs.length).bind fun sz=>if zec sz xs then some ({ v:=.ref t (L.new t) 0 xs.length,wr:=[(t,(L.new t,.arr sz xs true))] }:Out) else none)=some o→
   ∃ u w',(Builtin.append_ #[ty,ty2] rty #[su,.slice xa xs.length xcap]).run P w=.ok u w'∧Did c N w0 O0 L w o u w':=by
  rintro a rfl ha
  cases hty:zcK P ty xs.length with
  | none=>rw [hty] at ha; cases ha
  | some sz=>
   rw [hty] at ha;simp only [Option.bind_some] at ha;split at ha
   ·rename_i hok;injection ha with ha; subst ha;obtain ⟨e,i,z,zv,t1,t2,t3,t4,t5,t6,t7,t8,t9,t10⟩:=ziN hty;obtain ⟨nx,n1,n2,n3,n4⟩:=zfB (P:=P) hm hs hxs hx hok
    by_cases h0:xs=[]
    ·subst h0
     have:=zhl (P:=P) (ty2:=ty2) (rty:=rty) (a:=a) (sLen:=0) (sCap:=0) (w:=w) (w':=w) t1 t2 t3 h2 hlen (n1 w fun _=>rfl) (by simp) (by
      have:nx=#[]:=Array.eq_empty_of_size_eq_zero (by simpa using n2)
      subst this;cases a<;>simp [storeCells])
     exact ⟨_,_,by simpa using this,by simpa using zvi t sz a (wr:=[]) ht0 hm (Grow.refl ..) htlt⟩
    ·have hpos:0 < xs.length:=List.length_pos_iff.2 h0
     obtain ⟨cap,cx,q1,q2,q3,q4⟩:=zju (P:=P) (ty2:=ty2) (rty:=rty) (a:=a) (sLen:=0) (sCap:=0) (n:=xs.length) (old:=#[]) (new:=nx) t1 t2 t3 t4
      (by rw [(zde t5).1]; exact t7) t9 (by omega) h2 hlen (fun k=>by cases a<;>simp [Builtin.firstCells,loadCells,loadCellsFrom]) (fun k=>n1 _ fun _=>rfl) (by omega) (by simp) (by simpa using n2)
     refine ⟨_,_,q4,Did.drew hdg ?_⟩
     have:=zo7 (t:=t) (sz:=sz) (els:=xs) (x:=cx) (T:=e) (wr:=[]) (cap:=cap) ht0 (by
      have:=zfU.append (z:=cx) (a:=[]) (x:=#[]) zfU.nil (n3.grow hdg) (by simp) n2 (fun k hk=>q3 k (by simpa using hk))
      exact this) hdm (Grow.refl ..) htlt (by omega) (by omega)
     simpa using this
   ·cases ha
 cases s with
 | d y=>
  cases y with
  | sl tg l0=>
   cases tg with
   | nil=>
    cases l0 with
    | cons _ _=>cases ha
    | nil=>
     have hr:=hv.dat
     cases hr with
     | sl _ _ _ _ _ _ _ g1=>exact absurd rfl g1
     | slE _ a cap hf hn _=>
      have:=(hn rfl).2; subst this
      exact base a rfl ha
   | full=>
    cases l0 with
    | nil=>
     have hr:=hv.dat
     cases hr with
     | sl _ _ _ _ _ _ _ g1=>exact absurd rfl g1
     | slE _ a cap hf hn _=>
      have:=hf rfl; subst this
      exact base a rfl ha
    | cons y l=>
     dsimp only at ha
     cases xs with
     | nil=>cases ha
     | cons x1 xr=>
     dsimp only at ha
     cases hty:zcK P ty ((y::l).length+(x1::xr).length) with
     | none=>rw [hty] at ha; cases ha
     | some sz=>
      rw [hty] at ha;simp only [Option.bind_some] at ha;split at ha
      ·rename_i hok;injection ha with ha; subst ha;obtain ⟨e,i,z,zv,t1,t2,t3,t4,t5,t6,t7,t8,t9,t10⟩:=ziN hty;obtain ⟨nx,n1,n2,n3,n4⟩:=zfB (P:=P) hm hs hxs hx hok.1;obtain ⟨ox,o1,o2,o3,o4⟩:=zfB (P:=P) hm hs (l:=y::l) (v:=.d (.sl .full (y::l))) rfl hv hok.2;have hr:=hv.dat
       cases hr with
       | sl _ _ b bo sz' cap' vs g1 g1' g2 g3 g4 g5 g6 g7 g8=>
        have:=g3 rfl; subst this
        obtain ⟨cap,cx,q1,q2,q3,q4⟩:=zju (P:=P) (ty2:=ty2) (rty:=rty) (a:=some ⟨b,bo,none⟩) (sLen:=(y::l).length) (sCap:=(y::l).length) (n:=(x1::xr).length) (old:=ox) (new:=nx) t1 t2 t3 t4
         (by rw [(zde t5).1]; exact t7) t9 t10 h2 hlen (fun k=>o1 _ fun _=>rfl) (fun k=>n1 _ fun _=>rfl) (by simp) o2 n2
        refine ⟨_,_,q4,Did.drew hdg ?_⟩
        have:=zo7 (t:=t) (sz:=sz) (els:=(y::l)++(x1::xr)) (x:=cx) (T:=e) (wr:=[]) (cap:=cap) ht0
         (zfU.append (z:=cx) (o3.grow hdg) (n3.grow hdg) o2 n2 q3) hdm (Grow.refl ..) htlt (by omega) (by rw [List.length_append]; exact q1)
        rw [List.length_append] at this;simpa using this
      ·cases ha
   | _=>cases l0<;>cases ha
  | _=>cases ha
 | ref g n off len=>
  dsimp only at ha;split at ha
  ·rename_i sz' els hy
   cases hty:zcK P ty (len+xs.length) with
   | none=>rw [hty] at ha; cases ha
   | some sz=>
    rw [hty] at ha;simp only [Option.bind_some] at ha;split at ha
    ·rename_i hok;obtain ⟨hok,hle,rfl,hgs⟩:=hok;injection ha with ha; subst ha;obtain ⟨e,i,z,zv,t1,t2,t3,t4,t5,t6,t7,t8,t9,t10⟩:=ziN hty;obtain ⟨nx,n1,n2,n3,n4⟩:=zfB (P:=P) hm hs hxs hx hok
     have hL:=hs g n (by rw [hy]; simp)
     rw [hy] at hL
     obtain ⟨e1,e2⟩:=zbM hL (by simp)
     have hne:Lr.get g n≠.dead:=by rw [hy]; simp
     have helsOf:zdH Lr (.ref g n 0 len)=some els:=by
      simp only [zdH,hy]; rw [if_pos (by omega)]; simp [hle]
     have hnt:∀ k,tb k≠g:=hm.live_tab (by rw [e2]; rfl)
     have hml:=Mem.less hm g .dead hnt (.inl rfl);have hgl:=Grow.less hm g .dead (.inl rfl);rw [e1] at hml hgl
     have htl:(((L.upd [(g,(n,HObj.dead))]) t).1) < L.new t:=by
      simp only [Loc.upd]
      by_cases hgt:t=g
      ·subst hgt; rw [Loc.set_same]; simp [Loc.new,e1]
      ·rw [Loc.set_ne _ _ hgt]; exact htlt
     cases hv with
     | ref _ _ _ _ _ k1 k2 k3=>
      obtain ⟨_,a,cap,rfl,p3,p4⟩:=k2 _ _ _ hL
      by_cases hroom:len+xs.length≤cap
      ·rcases p4 with rfl | ⟨b,y,T,fz,r1,rfl,r3,r4⟩
       ·have hx0:xs=[]:=List.eq_nil_of_length_eq_zero (by omega)
        have hl0:len=0:=by omega
        have he0:els=[]:=List.eq_nil_of_length_eq_zero (by omega)
        subst hx0; subst hl0; subst he0
        have hnx:nx=#[]:=Array.eq_empty_of_size_eq_zero (by simpa using n2)
        have:=zhl (P:=P) (ty2:=ty2) (rty:=rty) (a:=a) (sLen:=0) (sCap:=0) (w:=w) (w':=w) t1 t2 t3 h2 hlen (n1 w fun _=>rfl) (by simp) (by
         subst hnx; cases a<;>simp [storeCells])
        exact ⟨_,_,by simpa using this,by simpa using zvi t sz' a (wr:=[(g,(n,.dead))]) ht0 hml hgl htl⟩
       ·have hob:=hm.get hL (by simp)
        rw [r1] at hob;obtain ⟨x',T',fz',g2,g3,g4,us,g5⟩:=hob;rw [r3] at g2; cases g2
        have hsc:len*sz'+nx.toList.length≤y.size:=by
         have:(len+xs.length)*sz'≤cap*sz':=Nat.mul_le_mul_right _ hroom;rw [Nat.add_mul] at this
         have h0:(0+cap)*sz'=cap*sz':=by rw [Nat.zero_add]
         simp; omega
        have hst:=zdJ (P:=P) (b:=b) (o:=len*sz') (T:=T) (fz:=fz) nx.toList 0 y w r3 (by simpa using hsc) (fun j _ hj=>g3 j (by simp at hj hsc; omega))
         (fun u hu=>by
          obtain ⟨k,hk,rfl⟩:=List.mem_iff_getElem.1 hu
          exact n4 k _ (by simp at hk ⊢))
        have:=zhl (P:=P) (ty2:=ty2) (rty:=rty) (a:=some ⟨b,0*sz',none⟩) (sLen:=len) (sCap:=cap) (w:=w) (w':=put w b (splice y (len*sz') nx.toList) T fz) t1 t2 t3 h2 hlen (n1 w fun _=>rfl) hroom (by
         simp only [Addr.add_lit,Nat.zero_mul,Nat.zero_add]; simpa using hst)
        refine ⟨_,_,this,?_⟩
        have:=zz0 hm (t:=t) (cap:=cap) ht0 hL r1 r3 hle (by simpa using r4) hroom n3 n2 hgs
        simpa using this
      ·have hold:∃ ox,(∀ w':World,(∀ a,w'.cell? a=w.cell? a)→(Builtin.firstCells sz' len (.slice a len cap)).run P w'=.ok ox w')∧ox.size=els.length*sz'∧zfU w (own c L) N c.γ sz' els ox:=by
        by_cases h0:len=0
        ·subst h0
         have he0:els=[]:=List.eq_nil_of_length_eq_zero (by omega)
         subst he0
         refine ⟨#[],fun w' _=>?_,by simp,zfU.nil⟩
         cases a<;>simp [Builtin.firstCells,loadCells,loadCellsFrom]
        ·rcases p4 with h' | ⟨b,y,T,fz,r1,rfl,r3,r4⟩
         ·omega
         ·have hob:=hm.get hL (by simp)
          rw [r1] at hob;obtain ⟨x',T',fz',g2,g3,g4,us,g5⟩:=hob
          obtain ⟨ox,o1,o2,o3,_⟩:=zfA (P:=P) (w:=w) (l:=els) (b:=b) (o:=0*sz') (cap:=cap) (vs:=us) (fun i d hd=>by
           obtain ⟨s1,s2,s3⟩:=g5 i d hd;rw [Nat.zero_mul,Nat.zero_add]; exact ⟨s1,s2,s3⟩)
          rw [←hle] at o1;exact ⟨ox,o1,o2,o3⟩
       obtain ⟨ox,o1,o2,o3⟩:=hold
       obtain ⟨cap2,cx,q1,q2,q3,q4⟩:=zju (P:=P) (ty2:=ty2) (rty:=rty) (a:=a) (sLen:=len) (sCap:=cap) (n:=xs.length) (old:=ox) (new:=nx) t1 t2 t3 t4
        (by rw [(zde t5).1]; exact t7) t9 t10 h2 hlen (fun k=>o1 _ fun _=>rfl) (fun k=>n1 _ fun _=>rfl) (by omega) (by rw [o2,hle]) n2
       refine ⟨_,_,q4,Did.drew hdg ?_⟩;obtain ⟨hdm2,hdg2⟩:=Mem.drew hml
       have:=zo7 (t:=t) (sz:=sz') (els:=els++xs) (x:=cx) (T:=e) (wr:=[(g,(n,.dead))]) (cap:=cap2) ht0
        (zfU.append (z:=cx) ((o3.grow hgl).grow hdg2) ((n3.grow hgl).grow hdg2) o2 n2 (fun k hk=>q3 k (by rw [hle]; exact hk))) hdm2 (by
         have:=Grow.less hdm g .dead (.inl rfl)
         rw [e1] at this; exact this) htl (by omega) (by rw [List.length_append]; omega)
       rw [List.length_append,←hle] at this;simpa using this
    ·cases ha
  ·cases ha
 | vref k n i o lo len=>
  dsimp only at ha;split at ha
  ·rename_i T els hTr hy;obtain ⟨hT,hver⟩:=hs.tab hTr;have hL:=hs.row hy
   cases hty:zcK P ty (len+xs.length) with
   | none=>rw [hty] at ha; cases ha
   | some sz=>
    rw [hty] at ha;simp only [Option.bind_some] at ha;split at ha
    ·rename_i hok;obtain ⟨hok,hsz,hle⟩:=hok;injection ha with ha; subst ha;obtain ⟨e,i',z,zv,t1,t2,t3,t4,t5,t6,t7,t8,t9,t10⟩:=ziN hty;obtain ⟨nx,n1,n2,n3,n4⟩:=zfB (P:=P) hm hs hxs hx hok;obtain ⟨wr,T',_,hvn,hT2,hcell⟩:=zf8 hL;rw [hT] at hT2; cases hT2;obtain ⟨cs,hi,hc⟩:=ziJ hcell
     have hset:setT T i o .undef=T.set i (cs.set o .undef):=by unfold setT; rw [hi]
     rw [hset];obtain ⟨hml,hgl⟩:=zzZ hm hT hvn hi hc
     have htl:(((L.upd [(tb k,(n,.tbl true (T.set i (cs.set o .undef))))]) t).1) < L.new t:=by
      simp only [Loc.upd]
      rw [Loc.set_ne _ _ (fun h=>zkj ht0 h.symm)]; exact htlt
     cases hv with
     | vref _ _ _ _ _ _ _ k1 k2=>
      obtain ⟨_,a,cap,rfl,p3,p4⟩:=k2 _ hL
      by_cases hroom:len+xs.length≤cap
      ·rcases p4 with rfl | ⟨b,y,T2,fz,r1,rfl,r3,r4⟩
       ·have hx0:xs=[]:=List.eq_nil_of_length_eq_zero (by omega)
        have hl0:len=0:=by omega
        have he0:els=[]:=List.eq_nil_of_length_eq_zero (by omega)
        subst hx0; subst hl0; subst he0
        have hnx:nx=#[]:=Array.eq_empty_of_size_eq_zero (by simpa using n2)
        have:=zhl (P:=P) (ty2:=ty2) (rty:=rty) (a:=a) (sLen:=0) (sCap:=0) (w:=w) (w':=w) t1 t2 t3 h2 hlen (n1 w fun _=>rfl) (by simp) (by
         subst hnx; cases a<;>simp [storeCells])
        exact ⟨_,_,by simpa using this,by simpa using zw8 t sz a (wr:=[(tb k,(n,.tbl true (T.set i (cs.set o .undef))))]) (z:=.trow sz []) (.inr rfl) ht0 hml hgl htl⟩
       ·obtain ⟨_,_,cs',b',cap',x',ty',fz',us,f1,f2,f3,f4,f5,f6,f7,f8,f9,f10⟩:=hm.rowAt hL (.inr (by rw [r1]; simp))
        rw [hT] at f1; cases f1;rw [hi] at f3; cases f3;rw [r1] at f5; cases f5;rw [r3] at f6; cases f6;subst hsz;generalize hszz:zcS k o=sz' at*
        have hcap:cap*sz'≤y.size:=by simpa using r4
        have hsc:len*sz'+nx.toList.length≤y.size:=by
         have:(len+xs.length)*sz'≤cap*sz':=Nat.mul_le_mul_right _ hroom;rw [Nat.add_mul] at this;simp; omega
        have hst:=zdJ (P:=P) (b:=b) (o:=len*sz') (T:=T2) (fz:=fz) nx.toList 0 y w r3 (by simpa using hsc) (fun j _ hj=>f7 j (by simp at hj hsc; omega))
         (fun u hu=>by
          obtain ⟨k,hk,rfl⟩:=List.mem_iff_getElem.1 hu
          exact n4 k _ (by simp at hk ⊢))
        have:=zhl (P:=P) (ty2:=ty2) (rty:=rty) (a:=some ⟨b,0*sz',none⟩) (sLen:=len) (sCap:=cap) (w:=w) (w':=put w b (splice y (len*sz') nx.toList) T2 fz) t1 t2 t3 h2 hlen (n1 w fun _=>rfl) hroom (by
         simp only [Addr.add_lit,Nat.zero_mul,Nat.zero_add]; simpa using hst)
        refine ⟨_,_,this,?_⟩;subst hszz
        have:=zCc hm (t:=t) (cap:=cap) ht0 hT hvn hi hc r1 r3 f7 hcap (by omega) f10 n3 n2
        rw [←hle] at this;simpa using this
      ·have hold:∃ ox,(∀ w':World,(∀ a,w'.cell? a=w.cell? a)→(Builtin.firstCells sz len (.slice a len cap)).run P w'=.ok ox w')∧ox.size=els.length*sz∧zfU w (own c L) N c.γ sz els ox:=by
        by_cases h0:len=0
        ·subst h0
         have he0:els=[]:=List.eq_nil_of_length_eq_zero (by omega)
         subst he0
         refine ⟨#[],fun w' _=>?_,by simp,zfU.nil⟩
         cases a<;>simp [Builtin.firstCells,loadCells,loadCellsFrom]
        ·rcases p4 with h' | ⟨b,y,T2,fz,r1,rfl,r3,r4⟩
         ·omega
         ·obtain ⟨_,_,cs',b',cap',x',ty',fz',us,f1,f2,f3,f4,f5,f6,f7,f8,f9,f10⟩:=hm.rowAt hL (.inr (by rw [r1]; simp))
          rw [r1] at f5; cases f5
          obtain ⟨ox,o1,o2,o3,_⟩:=zfA (P:=P) (w:=w) (A:=own c L) (N:=N) (γ:=c.γ) (l:=els) (b:=b) (o:=0*zcS k o) (sz:=zcS k o) (cap:=cap) (vs:=us) (fun i d hd=>by
           obtain ⟨s0,s1,_,s2,s3⟩:=f10 i d hd
           rw [Nat.zero_mul,Nat.zero_add]; exact ⟨s1.flEl s0 fun _ _ _ h=>h,s2,s3⟩)
          rw [←hle] at o1;rw [hsz];exact ⟨ox,o1,o2,o3⟩
       obtain ⟨ox,o1,o2,o3⟩:=hold
       obtain ⟨cap2,cx,q1,q2,q3,q4⟩:=zju (P:=P) (ty2:=ty2) (rty:=rty) (a:=a) (sLen:=len) (sCap:=cap) (n:=xs.length) (old:=ox) (new:=nx) t1 t2 t3 t4
        (by rw [(zde t5).1]; exact t7) t9 t10 h2 hlen (fun k=>o1 _ fun _=>rfl) (fun k=>n1 _ fun _=>rfl) (by omega) (by rw [o2,hle]) n2
       refine ⟨_,_,q4,Did.drew hdg ?_⟩;obtain ⟨hdm2,hdg2⟩:=Mem.drew hml;obtain ⟨_,hgd⟩:=zzZ hdm hT hvn hi hc
       have:=zzY (t:=t) (sz:=sz) (els:=els++xs) (x:=cx) (T:=e) (wr:=[(tb k,(n,.tbl true (T.set i (cs.set o .undef))))]) (z:=.trow sz (els++xs)) (cap:=cap2) (.inr rfl) ht0
        (zfU.append (z:=cx) ((o3.grow hgl).grow hdg2) ((n3.grow hgl).grow hdg2) o2 n2 (fun k hk=>q3 k (by rw [hle]; exact hk))) hdm2 hgd htl (by omega) (by rw [List.length_append]; omega)
       rw [List.length_append,←hle] at this;simpa using this
    ·cases ha
  ·cases ha
 | _=>cases ha
end
end Wf

namespace Wf
open Go Go.RowKit
theorem ztZ {n:Int} (h0:0≤n) (h1:n≤2 ^ 47):IntKind.i64.wrap n=n:=by
 have h2:n % (2 ^ 64:Int)=n:=Int.emod_eq_of_lt h0 (by omega)
 show (if (true && decide (n % (2 ^ 64:Int)≥(2 ^ 63:Int)))=true then n % (2 ^ 64:Int) - (2 ^ 64:Int) else n % (2 ^ 64:Int))=n
 rw [h2,if_neg];simp; omega
section
variable {c:Ctx} {N:Nat} {w0:World} {O0:Nat→Prop} {L Lr:Loc} {w:World}
theorem zo8 {P:Program} {t:TypeId} {z:D} (h:zgN P t=some z):∃ i zv,P.info? t=some i∧i.zero=some zv∧valD zv=some z:=by
 unfold zgN at h
 cases hi:P.info? t with
 | none=>rw [hi] at h; cases h
 | some i=>
  rw [hi] at h;simp only [Option.bind_some] at h
  cases hz:i.zero with
  | none=>rw [hz] at h; cases h
  | some zv=>rw [hz] at h; exact ⟨i,zv,rfl,hz,h⟩
theorem zvj {P:Program} (hm:Mem c N w0 O0 L w) {t:Nat} (ht0:t < 100000) (hnew:Lr t=L t) {ty:TypeId} {n k:V} {nu ku:Value} {o:Out} (ha:zlN P Lr t ty n k=some o)
  (hn:Val c L w N n nu) (hk:Val c L w N k ku):∃ u w',(Instr.makeSlice ty nu ku).run P w=.ok u w'∧Did c N w0 O0 L w o u w':=by
 have hnew':Lr.new t=L.new t:=by unfold Loc.new; rw [hnew]
 unfold zlN at ha;rw [hnew'] at ha;split at ha
 rotate_left
 ·cases ha
 rename_i e n k hu
 cases hz:zgN P e with
 | none=>rw [hz] at ha; cases ha
 | some z=>
 cases hsz:zb9 P e with
 | none=>rw [hz,hsz] at ha; cases ha
 | some sz=>
 cases hi:P.info? e with
 | none=>rw [hz,hsz,hi] at ha; cases ha
 | some i=>
 rw [hz,hsz,hi] at ha;dsimp only at ha;split at ha
 rotate_left
 ·cases ha
 rename_i hc;obtain ⟨c1,rfl,c3,c4,c5,c6⟩:=hc;injection ha with ha; subst ha;have:=hn.int; subst this;have:=hk.int; subst this;obtain ⟨i',zv,z1,z2,z3⟩:=zo8 hz;rw [hi] at z1; cases z1;obtain ⟨v1,v2,v3⟩:=zde z3;have hw:=ztZ c1 c4
 have hbb:¬ ((n:Int) < 0∨(i.bytes:Int)*n > 2 ^ 48):=by
  rintro (h | h)
  ·omega
  ·rw [Int.mul_comm] at h; omega
 let x:Array Value:=(Array.range (n.toNat*sz)).map fun j=>zv.cells[j % zv.cells.size]!
 have hxsz:x.size=n.toNat*sz:=by simp [x]
 have hrun:(Instr.makeSlice ty (.int .i64 n) (.int .i64 n)).run P w=.ok (.slice (some ⟨w.heap.size,0,none⟩) n.toNat n.toNat) (w.alloc (.cells x e)):=by
  have hA:¬ (n < 0):=by omega
  have hB:¬ ((281474976710656:Int) < ↑i.bytes*n):=by intro h; exact hbb (.inr h)
  have hsize:∀ w,(Go.sizeOf e).run P w=.ok sz w:=fun w=>zdI hsz w
  by_cases h0:n.toNat*sz=0
  ·have hx0:x=#[]:=Array.eq_empty_of_size_eq_zero (by rw [hxsz]; exact h0)
   have hn0:n=0:=by
    rcases Nat.mul_eq_zero.1 h0 with h | h
    ·omega
    ·omega
   subst hn0;simp [Instr.makeSlice,zbt hu,asInt,asIntOf,typeInfo,hi,hw,hsize,newRow,hx0,Go.Array.range_zero']
  ·have hz':∀ w,(zeroValue e).run P w=.ok zv w:=fun w=>by simp [zeroValue,typeInfo,hi,z2]
   simp only [Instr.makeSlice,Sem.run_bind,zbt hu,asInt,asIntOf,typeInfo,hi,hw,Sem.run_pure,Result.andThen_ok,run_program];simp [hA,hB,hsize,hz',newRow,h0,x]
 refine ⟨_,_,hrun,?_⟩
 have:=zo7 (t:=t) (sz:=sz) (els:=List.replicate n.toNat z) (x:=x) (T:=e) (wr:=[]) (cap:=n.toNat) ht0 ⟨fun _=>zv,fun j d hd=>by
  have hj:j < n.toNat:=by
   rcases Nat.lt_or_ge j n.toNat with h | h
   ·exact h
   ·rw [List.getElem?_eq_none (by simpa using h)] at hd; cases hd
  simp [hj] at hd;subst hd
  refine ⟨v3 _ _ _ _,(by rw [v1]; exact c5:zv.cells.size=sz),fun q u hq=>?_⟩
  have hqs:q < sz:=by
   rcases Nat.lt_or_ge q zv.cells.size with h' | h'
   ·omega
   ·rw [Array.getElem?_eq_none h'] at hq; cases hq
  have hlt:j*sz+q < n.toNat*sz:=by
   have:(j+1)*sz≤n.toNat*sz:=Nat.mul_le_mul_right _ hj;rw [Nat.succ_mul] at this; omega
  have hmod:(j*sz+q) % zv.cells.size=q:=by rw [v1,c5,Nat.mul_comm,Nat.mul_add_mod,Nat.mod_eq_of_lt hqs]
  simp only [x,Array.getElem?_map]
  rw [Array.getElem?_eq_getElem (by simpa using hlt)]
  simp only [Option.map_some,Array.getElem_range,hmod]
  have hqz:q < zv.cells.size:=by omega
  rw [Array.getElem?_eq_getElem hqz] at hq
  rw [getElem!_pos zv.cells q hqz]; exact hq⟩ hm (Grow.refl ..) (by simp [Loc.upd,Loc.new]) (by rw [hxsz]; exact Nat.le_refl _) (by simp)
 simpa using this
theorem zA0 (hm:Mem c N w0 O0 L w) {g l off:Nat} {els ys:List D} {b:Nat} {x:Array Value} {T:TypeId} {fz:Nat×Nat} {vs:List Value} {r:V} {ru:Value}
  (hL:L.get g l=.arr 1 els true) (hι:c.ι g=some b) (hb:w.heap[b]? =some (.cells x T fz)) (ho:off+ys.length≤els.length) (hr:Reps w (own c L) N c.γ ys vs) (h1:∀ v∈vs,v.oneCell'=true)
  (hrv:∀ c L w,Val c L w N r ru):
  Did c N w0 O0 L w { v:=r,wr:=[(g,(l,.arr 1 (els.take off++ys++els.drop (off+ys.length)) true))] } ru (put w b (splice x off vs) T fz):=by
 obtain ⟨e1,e2⟩:=zbM hL (by simp)
 have hob:=hm.get hL (by simp)
 rw [hι] at hob;obtain ⟨x',T',fz',g2,g3,g4,us,g5⟩:=hob;rw [hb] at g2; cases g2;have hvl:=hr.1
 have hsz:(splice x off vs).size=x.size:=zc0 (by omega)
 have hw:∀ k,k≠b→(put w b (splice x off vs) T fz).heap[k]? =w.heap[k]? :=fun k hk=>by rw [zcy (zbd hb)]; simp [hk]
 have hbb:(put w b (splice x off vs) T fz).heap[b]? =some (.cells (splice x off vs) T fz):=by rw [zcy (zbd hb)]; simp
 have hlen:(els.take off++ys++els.drop (off+ys.length)).length=els.length:=by simp; omega
 have hz:∀ y T' fz',w.heap[b]? =some (.cells y T' fz')→∃ y' fz'',(put w b (splice x off vs) T fz).heap[b]? =some (.cells y' T' fz'')∧y'.size=y.size:=by
  intro y T' fz' hy; rw [hb] at hy; cases hy; exact ⟨_,_,hbb,hsz⟩
 have hcp:zb1 (L g).2 (.arr 1 (els.take off++ys++els.drop (off+ys.length)) true):=by rw [e2]; exact ⟨rfl,hlen⟩
 have hg:=Grow.write hm (x:=.arr 1 (els.take off++ys++els.drop (off+ys.length)) true) hι (by rw [e2]; rfl) hcp (by simp [put]) hw hz
 have hmm:=Mem.write hm (x:=.arr 1 (els.take off++ys++els.drop (off+ys.length)) true) hι (by rw [e2]; simp) (by rw [e2]; rfl) hcp (by simp [put]) hw hz rfl rfl rfl
  ⟨_,T,fz,hbb,g3.put hb (by omega),by rw [hsz,hlen]; exact g4,
   fun i=>if off≤i∧i < off+ys.length then vs.getD (i - off) undef else us i,by
   intro i d hd;rw [zco ho] at hd
   by_cases hi:off≤i∧i < off+ys.length
   ·rw [if_pos hi] at hd;simp only [if_pos hi]
    have hj:i - off < vs.length:=by omega
    have hv:vs[i - off]? =some (vs.getD (i - off) undef):=by simp [hj]
    have ho1:=h1 _ (List.mem_of_getElem? hv)
    refine ⟨(hr.2 _ _ _ hd hv).grow hg,by rw [zbm ho1]; rfl,fun q u hu=>?_⟩
    rw [zbm ho1] at hu
    cases q with
    | zero=>
     simp only [List.getElem?_toArray,List.getElem?_cons_zero,Option.some.injEq] at hu
     rw [Nat.mul_one,Nat.add_zero,zgo hb,zcx (by omega),if_pos (by omega),hv,hu]
    | succ q=>simp at hu
   ·rw [if_neg hi] at hd;simp only [if_neg hi];obtain ⟨p1,p2,p3⟩:=g5 i d hd
    refine ⟨p1.grow hg,p2,fun q u hu=>?_⟩
    have hq:q=0:=by
     rcases Nat.lt_or_ge q (us i).cells.size with h' | h'
     ·omega
     ·rw [Array.getElem?_eq_none h'] at hu; cases hu
    subst hq;have:=p3 0 u hu;rw [Nat.mul_one,Nat.add_zero] at this ⊢
    rw [zgo hb,zcx (by omega),if_neg (by omega)]
    simpa [World.cell?,hb] using this⟩
 rw [e1] at hg hmm;exact ⟨c,hmm,hg,hrv _ _ _⟩
theorem zA1 {w:World} {b:Nat} {x:Array Value} {T:TypeId} {fz:Nat×Nat} (hb:w.heap[b]? =some (.cells x T fz)) (h:Unfrozen w b x.size):
  ∃ fz',w.freeze ⟨b,x.size,none⟩ 1=put w b x T fz'∧Unfrozen (w.freeze ⟨b,x.size,none⟩ 1) b x.size:=by
 have hlt:=zbd hb;have hle:=h.le _ _ _ hb;obtain ⟨lo,hi⟩:=fz
 have e:w.freeze ⟨b,x.size,none⟩ 1=put w b x T (if lo == hi then (x.size,x.size+1) else (min lo x.size,max hi (x.size+1))):=by
  unfold World.freeze put
  rw [if_neg (by decide)]
  congr 1;apply Array.ext_getElem?;intro j;rw [Array.getElem?_modify,Array.getElem?_setIfInBounds]
  by_cases hj:b=j
  ·subst hj
   have hbe:w.heap[b]=.cells x T (lo,hi):=by rw [Array.getElem?_eq_getElem hlt] at hb; exact Option.some.inj hb
   simp [hlt,hbe]
  ·simp [hj]
 refine ⟨_,e,?_⟩;rw [e]
 have hbb:∀ fz',(put w b x T fz').heap[b]? =some (.cells x T fz'):=fun fz'=>by rw [zcy hlt]; simp
 have hlo:lo < hi→x.size≤lo:=fun hl=>by
  refine Classical.byContradiction fun hn=>?_
  have:=h.at' lo (by omega)
  unfold World.frozen? at this;rw [hb] at this;simp at this;omega
 refine ⟨fun i hi'=>?_,fun x' T' fz' hx=>?_⟩
 ·unfold World.frozen?;rw [hbb];dsimp only
  by_cases he:lo=hi
  ·simp [he]; omega
  ·have:=hlo (by omega)
   simp [he]; omega
 ·rw [hbb] at hx;cases hx
  by_cases he:lo=hi
  ·simp [he]
  ·simp [he]; omega
theorem zCd {P:Program} (hm:Mem c N w0 O0 L w) (hs:Sees Lr L) {ty2:TypeId} {x:V} {xu:Value} {xs:List D} (he:zwT P Lr ty2 x=some xs) (hv:Val c L w N x xu) (hc:xs.all (fun d=>d.cell)=true) (n:Nat) (hn:n≤xs.length):
  Builtin.lenOf xu=pure xs.length∧∃ nx,(Builtin.firstCells 1 n xu).run P w=.ok nx w∧nx.size=n∧Reps w (own c L) N c.γ (xs.take n) nx.toList∧∀ v∈nx.toList,v.oneCell'=true:=by
 have hsl:zdH Lr x=some xs→Builtin.lenOf xu=pure xs.length∧∃ nx,(Builtin.firstCells 1 n xu).run P w=.ok nx w∧nx.size=n∧Reps w (own c L) N c.γ (xs.take n) nx.toList∧∀ v∈nx.toList,v.oneCell'=true:=by
  intro hxs;obtain ⟨xa,xcap,rfl,xc,hrow⟩:=ztW hm hs hxs hv;refine ⟨rfl,?_⟩
  have hln:(xs.take n).length=n:=by simp; omega
  rcases hrow with rfl | ⟨b,bo,sz',vs,rfl,_,_,h⟩
  ·have:n=0:=by simpa using hn
   subst this
   refine ⟨#[],?_,by simp,by simpa using Reps.nil,by simp⟩
   cases xa<;>simp [Builtin.firstCells,loadCells,loadCellsFrom]
  ·have h':∀ (i:Nat) (d:D),(xs.take n)[i]? =some d→Rep w (own c L) N c.γ d (vs i)∧(vs i).cells.size=1∧zdZ w b (bo+i*1) (vs i)∧(vs i).oneCell'=true:=by
    intro i d hd;rw [List.getElem?_take] at hd;split at hd
    ·obtain ⟨q1,q2,q3⟩:=h i d hd
     have hcell:d.cell=true:=by
      rw [List.all_eq_true] at hc;exact hc d (List.mem_of_getElem? hd)
     have ho:=q1.cell hcell
     have hs1:(vs i).cells.size=1:=by rw [zbm ho]; rfl
     have:sz'=1:=by omega
     subst this;exact ⟨q1,hs1,q3,ho⟩
    ·cases hd
   obtain ⟨nx,n1,n2,⟨us,n3⟩,n4⟩:=zfA (P:=P) (w:=w) (l:=xs.take n) (b:=b) (o:=bo) (cap:=xcap) (vs:=vs) fun i d hd=>⟨(h' i d hd).1,(h' i d hd).2.1,(h' i d hd).2.2.1⟩
   have n1':=n1 w fun _=>rfl
   rw [Nat.mul_one,hln] at n2;rw [hln] at n1'
   refine ⟨nx,by simpa [Builtin.firstCells] using n1',n2,⟨by simp [n2]; omega,fun i d v hd hv=>?_⟩,?_⟩
   ·obtain ⟨r1,r2,r3⟩:=n3 i d hd
    have ho:=r1.cell (by
     rw [List.getElem?_take] at hd;split at hd
     ·rw [List.all_eq_true] at hc; exact hc d (List.mem_of_getElem? hd)
     ·cases hd)
    have:=r3 0 (us i) (by rw [zbm ho]; rfl)
    rw [Nat.mul_one,Nat.add_zero] at this
    have hv':nx[i]? =some v:=by simpa using hv
    rw [this] at hv'; cases hv'; exact r1
   ·intro v hv;obtain ⟨k,hk,rfl⟩:=List.mem_iff_getElem.1 hv
    obtain ⟨i,d,q,r1,r2⟩:=n4 k (nx.toList[k]) (by simp)
    have ho:=(h' i d r1).2.2.2;rw [zbm ho] at r2
    cases q with
    | zero=>
     have e5:nx.toList[k]=vs i:=by simpa using r2.symm
     rw [e5]; exact ho
    | succ q=>simp at r2
 unfold zwT at he;split at he
 ·rename_i s;split at he
  rotate_left
  ·cases he
  injection he with he; subst he;have hst:=hv.dat
  cases hst with
  | str=>
  have hlen:(ztP s).length=s.size:=by simp [ztP]
  rw [hlen] at hn
  have hnx:((s.extract 0 n).data.map fun b=>Value.int .u8 b.toNat).toList=(s.data.toList.map fun b=>Value.int .u8 b.toNat).take n:=by
   simp
  refine ⟨by rw [hlen]; rfl,_,rfl,?_,?_,?_⟩
  ·simp; omega
  ·rw [hnx]
   refine ⟨by simp [ztP],fun i d v hd hv=>?_⟩
   rw [List.getElem?_take] at hd hv;split at hd
   rotate_left
   ·cases hd
   rename_i hi;rw [if_pos hi] at hv;unfold ztP at hd;rw [List.getElem?_map] at hd hv
   cases hb:s.data.toList[i]? with
   | none=>rw [hb] at hd; cases hd
   | some b=>
    rw [hb] at hd hv;simp at hd hv; subst hd; subst hv;exact .int _ _
  ·rw [hnx];intro v hv;have:=List.mem_of_mem_take hv;obtain ⟨b,_,rfl⟩:=List.mem_map.1 this;rfl
 ·split at he
  ·cases he
  ·exact hsl he
theorem zvk {P:Program} {ty:TypeId} {tys:List TypeId} {rty e:TypeId} {a:Option Addr} {len cap n m:Nat} {xu:Value} {nx:Array Value} {w w':World} (hu:P.underlying ty=some (.slice e)) (hsize:∀ w,(Go.sizeOf e).run P w=.ok 1 w)
  (h1:Builtin.lenOf xu=pure m) (hn:Nat.min m len=n) (h2:(Builtin.firstCells 1 n xu).run P w=.ok nx w) (hst:∀ b,a=some b→(storeCells b nx.toList).run P w=.ok () w') (hno:a=none→w'=w):
  (Builtin.copy_ (ty::tys).toArray rty #[.slice a len cap,xu]).run P w=.ok (goInt n) w':=by
 simp only [Builtin.copy_];simp [zbt hu,hsize,h1];rw [hn,h2]
 cases a with
 | none=>simp [hno rfl]
 | some b=>simp [hst b rfl]
theorem zEu {P:Program} (hm:Mem c N w0 O0 L w) (hs:Sees Lr L) {ty rty ty2:TypeId} {tys:List TypeId} {s x:V} {su xu:Value} {o:Out} (ha:zAY P Lr ty ty2 s x=some o)
  (hv:Val c L w N s su) (hx:Val c L w N x xu):
  ∃ u w',(Builtin.copy_ (ty::tys).toArray rty #[su,xu]).run P w=.ok u w'∧Did c N w0 O0 L w o u w':=by
 unfold zAY at ha;split at ha
 ·rename_i g n off len xs ez hxs hty;split at ha
  rotate_left
  ·cases ha
  rename_i sz els hy;split at ha
  rotate_left
  ·cases ha
  rename_i hc;obtain ⟨c1,rfl,rfl,c4⟩:=hc;injection ha with ha; subst ha
  have hL:=hs g n (by rw [hy]; simp)
  rw [hy] at hL;obtain ⟨e,hu,he⟩:=zmY hty
  cases hv with
  | ref _ _ _ _ _ k1 k2 k3=>
  obtain ⟨_,a,cap,rfl,p3,p4⟩:=k2 _ _ _ hL
  have hmin:Nat.min xs.length len=(xs.take len).length:=by rw [List.length_take]; exact Nat.min_comm _ _
  have hmin2:min xs.length len=(xs.take len).length:=hmin
  obtain ⟨hlen,nx,n1,n2,n3,n4⟩:=zCd (P:=P) hm hs hxs hx c4 (xs.take len).length (by simp; omega)
  rw [show xs.take (xs.take len).length=xs.take len by rw [←hmin2]; simp [List.take_eq_take_min (i:=len),Nat.min_comm]] at n3
  have hsize:∀ w,(Go.sizeOf e).run P w=.ok 1 w:=fun w=>zdI he w
  have hri:∀ c L w,Val c L w N (.d (.int .i64 ((min xs.length len:Nat):Int))) (goInt ((xs.take len).length:Nat)):=by
   intro c L w; rw [hmin2]; exact .d _ _ (.int _ _)
  by_cases h0:(xs.take len).length=0
  ·have hnx:nx=#[]:=Array.eq_empty_of_size_eq_zero (by omega)
   subst hnx;have hxt:xs.take len=[]:=List.eq_nil_of_length_eq_zero h0
   refine ⟨_,_,zvk hu hsize hlen hmin n1 (w':=w) (fun b _=>by simp [storeCells]) (fun _=>rfl),?_⟩
   have he2:els.take off++xs.take len++els.drop (off+(xs.take len).length)=els:=by rw [hxt]; simp
   rw [he2]
   obtain ⟨e1,e2⟩:=zbM hL (by simp)
   have hset:L.set g (n,.arr 1 els true)=L:=by
    funext k; by_cases hk:k=g
    ·subst hk; rw [Loc.set_same]; exact Prod.ext e1.symm e2.symm
    ·rw [Loc.set_ne _ _ hk]
   refine ⟨c,?_,?_,hri _ _ _⟩
   ·simp only [Loc.upd,hset]; exact hm
   ·simp only [Loc.upd,hset]; exact Grow.refl ..
  ·rcases p4 with rfl | ⟨b,y,T,fz,r1,rfl,r3,r4⟩
   ·simp at h0; omega
   ·have hob:=hm.get hL (by simp)
    rw [r1] at hob;obtain ⟨x',T',fz',g2,g3,g4,us,g5⟩:=hob;rw [r3] at g2; cases g2
    have hle:off+(xs.take len).length≤els.length:=by simp; omega
    have hst:=zdJ (P:=P) (b:=b) (o:=off) (T:=T) (fz:=fz) nx.toList 0 y w r3 (by simp; omega) (fun j _ hj=>g3 j (by simp at hj; omega)) n4
    refine ⟨_,_,zvk hu hsize hlen hmin n1 (fun q hq=>by cases hq; rw [Nat.mul_one]; exact hst) (by simp),?_⟩
    exact zA0 hm hL r1 r3 hle n3 n4 hri
 ·rename_i g n off len xs ez hxs hty;split at ha
  rotate_left
  ·cases ha
  rename_i ag ds hy;split at ha
  rotate_left
  ·cases ha
  rename_i hc;obtain ⟨c1,rfl,c4⟩:=hc;injection ha with ha; subst ha
  have hL:=hs g n (by rw [hy]; simp)
  rw [hy] at hL;obtain ⟨e,hu,he⟩:=zmY hty
  cases hv with
  | bref _ _ _ _ _ k1 k2=>
  obtain ⟨_,b,cap,r1,p3,rfl⟩:=k2 _ (by rw [hL]; rfl)
  have hmin:Nat.min xs.length len=(xs.take len).length:=by rw [List.length_take]; exact Nat.min_comm _ _
  have hmin2:min xs.length len=(xs.take len).length:=hmin
  obtain ⟨hlen,nx,n1,n2,n3,n4⟩:=zCd (P:=P) hm hs hxs hx c4 (xs.take len).length (by simp; omega)
  rw [show xs.take (xs.take len).length=xs.take len by rw [←hmin2]; simp [List.take_eq_take_min (i:=len),Nat.min_comm]] at n3
  have hsize:∀ w,(Go.sizeOf e).run P w=.ok 1 w:=fun w=>zdI he w
  have hri:∀ c L w,Val c L w N (.d (.int .i64 ((min xs.length len:Nat):Int))) (goInt ((xs.take len).length:Nat)):=by
   intro c L w; rw [hmin2]; exact .d _ _ (.int _ _)
  obtain ⟨b',y,T,fz,g1,r3,g3,g4,g5⟩:=hm.get hL (by simp)
  rw [r1] at g1; cases g1
  have hle:off+(xs.take len).length≤ds.length:=by simp; omega
  have hst:=zdJ (P:=P) (b:=b) (o:=off) (T:=T) (fz:=fz) nx.toList 0 y w r3 (by simp; omega) (fun j _ hj=>g3 j (by simp at hj; omega)) n4
  refine ⟨_,_,zvk hu hsize hlen hmin n1 (fun q hq=>by cases hq; exact hst) (by simp),?_⟩
  obtain ⟨c',d1,d2,d3⟩:=zrr (z:=.box ag (ds.take off++xs.take len++ds.drop (off+(xs.take len).length))) (vs:=(xs.take len).map .d) (off:=off) hm hL rfl (by simp [HObj.cellsV]) r1 r3 (by simp; omega) (fun i v u hv hu=>by
    rw [List.getElem?_map] at hv
    cases hd:(xs.take len)[i]? with
    | none=>rw [hd] at hv; cases hv
    | some d=>rw [hd] at hv; simp at hv; subst hv; exact .d _ _ (n3.2 i d u hd hu)) n4 (by simpa using hle)
  exact ⟨c',d1,d2,hri _ _ _⟩
 ·cases ha
end
end Wf

namespace Wf
open Go Go.RowKit
theorem zz1 (off:Nat):∀ (vs:List Value) (j:Nat) (x:Array Value),off+j+vs.length≤x.size→
  (vs.zipIdx j).foldl (fun cs p=>cs.setIfInBounds (off+p.2) p.1) x=splice x (off+j) vs
 | [],j,x,_=>by simp [ztT]
 | v::vs,j,x,h=>by
  simp only [List.zipIdx_cons,List.foldl_cons];simp at h
  rw [zz1 off vs (j+1) (x.setIfInBounds (off+j) v) (by simp; omega),show off+(j+1)=off+j+1 by omega]
  exact zro (by simp; omega)
theorem zw9 (off:Nat) (vs x:Array Value) (h:off+vs.size≤x.size):
  vs.zipIdx.foldl (fun cs p=>cs.setIfInBounds (off+p.2) p.1) x=splice x off vs.toList:=by
 have:=zz1 off vs.toList 0 x (by simpa using h)
 rw [←Array.foldl_toList,Array.toList_zipIdx];simpa using this
theorem ziO {place:Nat→Option (Nat×Nat)} {x:Array Value} {i off size:Nat} {v:Value} {rest:List (Nat×Value)} (hp:place i=some (off,size)) (hv:v.cells.size=size) (ho:off+size≤x.size):
  Instr.fill place x ((i,v)::rest)=Instr.fill place (splice x off v.cells.toList) rest:=by
 have:=zw9 off v.cells x (by omega)
 simp only [Instr.fill,hp,hv]
 rw [if_neg (by simp; omega)]
 rw [←this]
theorem zz2 {sz:Nat}:∀ (vs:List Value) (k:Nat) (x:Array Value),(∀ v∈vs,v.cells.size=sz)→(k+vs.length)*sz≤x.size→
  ∃ x',Instr.fill (fun i=>some (i*sz,sz)) x ((vs.zipIdx k).map fun p=>(p.2,p.1))=some x'∧x'.size=x.size∧
   (∀ (i:Nat) (v:Value),vs[i]? =some v→∀ (q:Nat) (u:Value),v.cells[q]? =some u→x'[(k+i)*sz+q]? =some u)∧∀ j,j < k*sz→x'[j]? =x[j]?
 | [],k,x,_,_=>⟨x,rfl,rfl,by simp,fun _ _=>rfl⟩
 | v::vs,k,x,hv,h=>by
  have hvs:v.cells.size=sz:=hv v (by simp)
  have hk:k*sz+sz≤x.size:=by
   have:(k+1)*sz≤(k+(v::vs).length)*sz:=Nat.mul_le_mul_right _ (by simp)
   rw [Nat.succ_mul] at this; omega
  have hroom:k*sz+v.cells.toList.length≤x.size:=by simp; omega
  obtain ⟨x',h1,h2,h3,h4⟩:=zz2 vs (k+1) (splice x (k*sz) v.cells.toList) (fun u hu=>hv u (by simp [hu])) (by
   rw [zc0 hroom]; simp at h; rw [show k+1+vs.length=k+(vs.length+1) by omega]; exact h)
  refine ⟨x',?_,by rw [h2,zc0 hroom],?_,?_⟩
  ·simp only [List.zipIdx_cons,List.map_cons];rw [ziO rfl hvs hk]; exact h1
  ·intro i u hu q y hy
   cases i with
   | zero=>
    simp at hu; subst hu
    have hq:q < sz:=by
     rcases Nat.lt_or_ge q v.cells.size with h' | h'
     ·omega
     ·rw [Array.getElem?_eq_none h'] at hy; cases hy
    rw [Nat.add_zero,h4 _ (by rw [Nat.succ_mul]; omega),zcx hroom,if_pos (by simp; omega),show k*sz+q - k*sz=q by omega]
    simpa using hy
   | succ i=>
    have:=h3 i u (by simpa using hu) q y hy
    rwa [show k+1+i=k+(i+1) by omega] at this
  ·intro j hj
   rw [h4 j (by rw [Nat.succ_mul]; omega),zcx hroom,if_neg (by omega)]
section
variable {c:Ctx} {N:Nat} {w0:World} {O0:Nat→Prop} {L Lr:Loc} {w:World}
theorem Mem.anon (h:Mem c N w0 O0 L w) (o:Obj):Grow c L w c L (w.alloc o)∧Mem c N w0 O0 L (w.alloc o):=by
 have hold:∀ b,b < w.heap.size→(w.alloc o).heap[b]? =w.heap[b]? :=fun b hb=>Below.heap_alloc w o b hb
 have hg:Grow c L w c L (w.alloc o):=by
  refine ⟨by simp,fun b _ hb=>hold b hb,fun _ _ h=>h,fun _ _ _ h=>h,fun _ _ _ _ _=>rfl,fun _ h=>⟨h,rfl,rfl⟩,?_,fun _=>Nat.le_refl _,fun _ _=>.inr ⟨rfl,zb1.refl _⟩⟩
  intro b y T fz hb _
  exact ⟨y,fz,by rw [hold b (zbd hb)]; exact hb,rfl⟩
 refine ⟨hg,fun g=>(h.obj g).grow hg fun b hb hd=>hold b (h.mine g b hb hd).2.1,h.inj,fun g b h1 h2=>?_,h.mineN,?_,h.iotab,h.only,?_,h.size0,h.os,h.tape,h.output,fun b hb hO=>?_,fun b hb=>?_⟩
 ·obtain ⟨a1,a2,a3⟩:=h.mine g b h1 h2; exact ⟨a1,by simp; omega,a3⟩
 ·exact h.tab.stable (fun k=>rfl) rfl rfl rfl fun k i q b h1 h2=>hold b (by obtain ⟨o,ho⟩:=h.tab.block h1 h2; exact zbd ho)
 ·have:=h.size; simp; omega
 ·rw [hold b (by have:=h.size; omega)]; exact h.keep b hb hO
 ·obtain ⟨a1,a2⟩:=h.osub b hb; exact ⟨by simp; omega,a2⟩
theorem ztb {P:Program} (hm:Mem c N w0 O0 L w) (hs:Sees Lr L) {di:Nat} (ht0:di < 100000) (hnew:Lr di=L di) {t:TypeId} {n:Nat} {parts:List (Nat×V)} {us:List Value} {o:Out} (ha:zjs P Lr di t n parts=some o)
  (hv:Vals c L w N (parts.map (·.2)) us):
  ∃ u w',(Instr.buildSlice t n ((parts.map (·.1)).zip us).toArray).run P w=.ok u w'∧Did c N w0 O0 L w o u w':=by
 unfold zjs at ha
 cases hty:zcK P t n with
 | none=>rw [hty] at ha; cases ha
 | some sz=>
 cases htd:toDs Lr (parts.map (·.2)) with
 | none=>rw [hty,htd] at ha; cases ha
 | some p=>
 obtain ⟨ds,wr⟩:=p;rw [hty,htd] at ha;dsimp only at ha;split at ha
 rotate_left
 ·cases ha
 rename_i hc;obtain ⟨c1,c2,c3⟩:=hc;injection ha with ha;obtain ⟨m1,m2,m3,_⟩:=zGu _ _ _ _ L hm hs.weak htd hv;obtain ⟨e,i,z,zv,t1,t2,t3,t4,t5,t6,t7,t8,t9,t10⟩:=ziN hty
 have hpl:parts.length=n:=by have:=congrArg List.length c1; simpa using this
 have hul:us.length=n:=by rw [hv.1]; simpa using hpl
 have hdl:ds.length=n:=by rw [←m3.1]; exact hul
 have hus:∀ u∈us,u.cells.size=sz∧∀ (q:Nat) (y:Value),u.cells[q]? =some y→y.oneCell'=true:=by
  intro u hu;obtain ⟨k,hk,rfl⟩:=List.mem_iff_getElem.1 hu
  have hd:ds[k]? =some (ds[k]'(by omega)):=by simp
  obtain ⟨o1,o2⟩:=ztX c3 hd;have:=(m3.2 k _ _ hd (List.getElem?_eq_getElem hk)).cells o2
  exact ⟨by omega,this.2⟩
 have hzip:(parts.map (·.1)).zip us=(us.zipIdx 0).map fun p=>(p.2,p.1):=by
  rw [c1];apply List.ext_getElem?;intro k;simp only [List.getElem?_map,List.getElem?_zipIdx]
  by_cases hk:k < n
  ·have h1:us[k]? =some (us[k]'(by omega)):=by simp
   have h2:(List.range n)[k]? =some k:=by simp [hk]
   have h3:((List.range n).zip us)[k]? =some (k,us[k]'(by omega)):=List.getElem?_zip_eq_some.2 ⟨h2,h1⟩
   rw [h3];simp [h1]
  ·rw [List.getElem?_eq_none (show us.length≤k by omega),List.getElem?_eq_none (by simp; omega)]
   rfl
 let x0:Array Value:=(Array.range (n*sz)).map fun j=>(if n*sz=0 then #[] else zv.cells)[j % (if n*sz=0 then (#[]:Array Value) else zv.cells).size]!
 have hx0:x0.size=n*sz:=by simp [x0]
 obtain ⟨x,f1,f2,f3,_⟩:=zz2 (sz:=sz) us 0 x0 (fun u hu=>(hus u hu).1) (by rw [hx0,hul,Nat.zero_add]; exact Nat.le_refl _)
 have hsize:∀ w,(Go.sizeOf e).run P w=.ok sz w:=fun w=>zdI (by unfold zb9; simp [t2,t3]) w
 have hzero:∀ w,(zeroValue e).run P w=.ok zv w:=fun w=>by simp [zeroValue,typeInfo,t2,t4]
 have hrun:(Instr.buildSlice t n ((parts.map (·.1)).zip us).toArray).run P w=.ok (.slice (some ⟨w.heap.size,0,none⟩) n n) (w.alloc (.cells x e)):=by
  have hbig:¬ (n*sz > 2 ^ 24):=by omega
  rw [hzip];unfold Instr.buildSlice;simp only [Sem.run_bind,zbt t1,Result.andThen_ok,hsize,hbig,if_false]
  by_cases h0:n*sz=0
  ·have e1:x0=(Array.range (n*sz)).map fun j=>(#[]:Array Value)[j % (#[]:Array Value).size]! :=by simp only [x0,h0,if_true]
   simp only [h0,if_true,Sem.run_bind,Sem.run_pure,Result.andThen_ok];rw [e1,h0] at f1;simp only [f1,newRow,Sem.run_bind,Sem.run_pure,Result.andThen_ok,run_newObj,World.alloc_eq]
  ·have e1:x0=(Array.range (n*sz)).map fun j=>zv.cells[j % zv.cells.size]! :=by simp only [x0,h0,if_false]
   simp only [h0,if_false,Sem.run_bind,hzero,Sem.run_pure,Result.andThen_ok];rw [e1] at f1;simp only [f1,newRow,Sem.run_bind,Sem.run_pure,Result.andThen_ok,run_newObj,World.alloc_eq]
 refine ⟨_,_,hrun,?_⟩
 have hcells:∀ (j:Nat) (d:D),ds[j]? =some d→∃ hj:us[j]? =some (us.getD j undef),Rep w (own c (L.upd wr)) N c.γ d (us.getD j undef)∧(us.getD j undef).cells.size=sz∧∀ (q:Nat) (y:Value),(us.getD j undef).cells[q]? =some y→x[j*sz+q]? =some y:=fun j d hd=>by
  have hi:j < us.length:=by
   rcases Nat.lt_or_ge j ds.length with h | h
   ·omega
   ·rw [List.getElem?_eq_none h] at hd; cases hd
  have hu:us[j]? =some (us.getD j undef):=by simp [hi]
  refine ⟨hu,m3.2 j d _ hd hu,(hus _ (List.mem_of_getElem? hu)).1,fun q y hy=>?_⟩
  have:=f3 j _ hu q y hy
  rwa [Nat.zero_add] at this
 by_cases hown:(zhf P t && decide (0 < n))=true∧wr=[]
 ·obtain ⟨hown,hwr⟩:=hown;subst hwr;rw [hown] at ha
  have hnew':Lr.new di=L.new di:=by unfold Loc.new; rw [hnew]
  subst ha
  have:=zo7 (c:=c) (N:=N) (w0:=w0) (O0:=O0) (L:=L) (w:=w) (t:=di) (sz:=sz) (els:=ds) (x:=x) (T:=e) (wr:=[]) (cap:=n) ht0 ⟨fun j=>us.getD j undef,fun j d hd=>(hcells j d hd).2⟩ m1 m2 (by unfold Loc.new; simp [Loc.upd]) (by omega) (by omega)
  rw [hdl] at this;unfold zzR;rw [hnew'];simpa using this
 have ha:o={ v:=.d (.sl .full ds),wr:=wr }:=by
  rw [←ha];unfold zzR;split
  ·rename_i h1 h2; exact (hown ⟨h1,rfl⟩).elim
  ·rfl
 subst ha;obtain ⟨hgrow,hmem⟩:=m1.anon (.cells x e);refine ⟨c,hmem,m2.trans hgrow,.d _ _ ?_⟩
 have hnot:¬ own c (L.upd wr) w.heap.size:=by
  rintro (ho | ⟨g,h1,h2⟩)
  ·have:=(m1.osub _ ho).1; omega
  ·have:=(m1.mine g _ h1 (by intro e; rw [e] at h2; cases h2)).2.1; omega
 by_cases hn:n=0
 ·subst hn;have:ds=[]:=List.eq_nil_of_length_eq_zero hdl;subst this
  exact .slE _ _ _ (fun _=>rfl) (fun h=>nomatch h) (by simp)
 ·have:=Rep.sl (w:=w.alloc (.cells x e)) (A:=own c (L.upd wr)) (N:=N) (γ:=c.γ) .full ds w.heap.size 0 sz n (fun i=>us.getD i undef) (by intro e; rw [e] at hdl; simp at hdl; omega) (by simp) (by omega) (fun _=>hdl.symm)
   hnot (fun _=>m1.size) (by simp) (fun i d hd=>by
    have hi:i < us.length:=by
     rcases Nat.lt_or_ge i ds.length with h | h
     ·omega
     ·rw [List.getElem?_eq_none h] at hd; cases hd
    exact (m3.2 i d _ hd (by simp [hi])).grow hgrow)
   (fun i hi=>by
    have hu:us[i]? =some (us.getD i undef):=by simp [show i < us.length by omega]
    refine ⟨(hus _ (List.mem_of_getElem? hu)).1,fun q y hy=>?_⟩
    rw [World.cell?_alloc_new,Nat.zero_add];have:=f3 i _ hu q y hy
    rwa [Nat.zero_add] at this)
  rw [hdl] at this;exact this
end
end Wf

namespace Wf
open Go Go.RowKit
set_option linter.unusedSimpArgs false
section
variable {w:World}
theorem zqb {P:Program} {ty ty2 rty e sz sLen sCap n:Nat} {a:Option Addr} {zv:Value} {i:TypeInfo} {kk:IntKind} (hu:P.underlying ty=some (.slice e)) (hi:P.info? e=some i) (hs:i.size=sz)
  (hz:i.zero=some zv) (hzs:zv.cells.size=sz) (hw:IntKind.i64.wrap (n:Int)=n) (h3:¬ (281474976710656 < (n:Int)*i.bytes)) (h2:P.underlying ty2=some (.int kk)) (hle:sLen+n≤sCap) {w':World}
  (hst:match a with | some a=>(storeCells (a.add (sLen*sz)) (Builtin.zeroCells zv.cells n).toList).run P w=.ok () w' | none=>w'=w):
  (Builtin.append_ #[ty,ty2] rty #[.slice a sLen sCap,.int .i64 (n:Int)]).run P w=.ok (.slice a (sLen+n) sCap) w':=by
 have hsize:∀ w,(Go.sizeOf e).run P w=.ok sz w:=fun w=>zdI (by unfold zb9; simp [hi,hs]) w
 have hinfo:∀ w,(typeInfo e).run P w=.ok i w:=fun w=>by simp [typeInfo,hi]
 have hzero:∀ w,(zeroValue e).run P w=.ok zv w:=fun w=>by simp [zeroValue,hinfo,hz]
 have h1:¬ ((n:Int) < 0):=by omega
 have hai:∀ w,(asIntOf (Value.int .i64 (n:Int))).run P w=.ok (.i64,(n:Int)) w:=fun _=>rfl
 unfold Builtin.append_
 by_cases h0:n*sz=0
 ·have hz0:Builtin.zeroCells zv.cells n=#[]:=Array.eq_empty_of_size_eq_zero (by simp [Builtin.zeroCells,hzs,h0])
  rw [hz0] at hst
  cases a with
  | none=>simp at hst; simp [zbt hu,zbt h2,hsize,asInt,hai,hw,h1,h3,hinfo,hle,h0,hst]
  | some a=>simp at hst; simp [zbt hu,zbt h2,hsize,asInt,hai,hw,h1,h3,hinfo,hle,h0,hst]
 ·cases a with
  | none=>simp at hst; simp [zbt hu,zbt h2,hsize,asInt,hai,hw,h1,h3,hinfo,hle,h0,hzero,hst]
  | some a=>simp at hst; simp [zbt hu,zbt h2,hsize,asInt,hai,hw,h1,h3,hinfo,hle,h0,hzero,hst]
theorem zxa {P:Program} {ty ty2 rty e sz sLen sCap n:Nat} {a:Option Addr} {zv:Value} {old:Array Value} {i:TypeInfo} {kk:IntKind} (hu:P.underlying ty=some (.slice e)) (hi:P.info? e=some i) (hs:i.size=sz)
  (hz:i.zero=some zv) (hzs:zv.cells.size=sz) (hb:i.bytes≤4096) (hn:sLen+n≤2 ^ 32) (hw:IntKind.i64.wrap (n:Int)=n) (h3:¬ (281474976710656 < (n:Int)*i.bytes))
  (h2:P.underlying ty2=some (.int kk)) (hold:∀ k,(Builtin.firstCells sz sLen (.slice a sLen sCap)).run P (w.drewN k)=.ok old (w.drewN k))
  (hgt:sCap < sLen+n) (ho1:old.size=sLen*sz):
  ∃ cap x,sLen+n≤cap∧x.size=cap*sz∧(∀ k,k < (sLen+n)*sz→x[k]? =(old++Builtin.zeroCells zv.cells n)[k]?)∧
   (Builtin.append_ #[ty,ty2] rty #[.slice a sLen sCap,.int .i64 (n:Int)]).run P w=.ok (.slice (some ⟨w.heap.size,0,none⟩) (sLen+n) cap) (w.drew.alloc (.cells x e)):=by
 have hsize:∀ w,(Go.sizeOf e).run P w=.ok sz w:=fun w=>zdI (by unfold zb9; simp [hi,hs]) w
 have hinfo:∀ w,(typeInfo e).run P w=.ok i w:=fun w=>by simp [typeInfo,hi]
 have hzero:∀ w,(zeroValue e).run P w=.ok zv w:=fun w=>by simp [zeroValue,hinfo,hz]
 have hcap:=zkG (sLen+n) sCap hgt
 have hbig:¬ (Builtin.nextslicecap (sLen+n) sCap*i.bytes > 2 ^ 48):=by
  have h1:Builtin.nextslicecap (sLen+n) sCap*i.bytes≤(2*2 ^ 32+2000)*4096:=Nat.mul_le_mul (by omega) hb
  have h2:(2*2 ^ 32+2000)*4096≤2 ^ 48:=by decide
  omega
 let cap:=sLen+n+w.tape w.drawn (.appendCap (sLen+n) sCap e) % (2 ^ 63 - (sLen+n))
 have hnot:¬ (sLen+n≤sCap):=by omega
 have hold1:=hold 1
 have hnew:(Builtin.zeroCells zv.cells n).size=n*sz:=by simp [Builtin.zeroCells,hzs]
 have h1:¬ ((n:Int) < 0):=by omega
 have hai:∀ w,(asIntOf (Value.int .i64 (n:Int))).run P w=.ok (.i64,(n:Int)) w:=fun _=>rfl
 refine ⟨cap,old++Builtin.zeroCells zv.cells n++Builtin.zeroCells zv.cells (cap - (sLen+n)),Nat.le_add_right _ _,?_,?_,?_⟩
 ·simp only [Array.size_append,ho1,hnew];simp [Builtin.zeroCells,hzs];rw [←Nat.add_mul,←Nat.add_mul]; congr 1; have:sLen+n≤cap:=Nat.le_add_right _ _; omega
 ·intro k hk;rw [Array.getElem?_append_left];rw [Nat.add_mul] at hk; simp only [Array.size_append,ho1,hnew]; exact hk
 ·have hd:w.drewN 1=w.drew:=rfl;rw [hd] at hold1
  have hA:¬ ((9223372036854775807:Int) < ↑sLen+↑n):=by omega
  have hB:¬ (281474976710656 < Builtin.nextslicecap (sLen+n) sCap*i.bytes):=hbig;have hF:(Question.appendCap (sLen+n) sCap e).forced=false:=rfl;have hC:(Question.appendCap (sLen+n) sCap e).cut (w.tape w.drawn (.appendCap (sLen+n) sCap e))=cap:=rfl
  have hM:max (n:Int) 0=n:=by omega
  unfold Builtin.append_
  by_cases h0:n*sz=0
  ·have hz0:Builtin.zeroCells zv.cells n=#[]:=Array.eq_empty_of_size_eq_zero (by rw [hnew,h0])
   rw [hz0];simp [zbt hu,zbt h2,hsize,asInt,hai,hw,h1,h3,hinfo,hnot,h0,hA,hB,hF,hC,hM,hold1,hzero,newRow]
  ·simp [zbt hu,zbt h2,hsize,asInt,hai,hw,h1,h3,hinfo,hnot,h0,hA,hB,hF,hC,hM,hold1,hzero,newRow]
end
section
variable {c:Ctx} {N:Nat} {w0:World} {O0:Nat→Prop} {L Lr:Loc} {w:World}
theorem zCe {A:Nat→Prop} {γ:Nat→Nat→Option Nat} {z:D} {zv:Value} {sz k:Nat} (hz:valD zv=some z) (hw:z.width=sz):zfU w A N γ sz (List.replicate k z) (Builtin.zeroCells zv.cells k)∧(Builtin.zeroCells zv.cells k).size=k*sz:=by
 obtain ⟨v1,v2,v3⟩:=zde hz
 have hs:zv.cells.size=sz:=by rw [v1]; exact hw
 refine ⟨⟨fun _=>zv,fun j d hd=>?_⟩,by simp [Builtin.zeroCells,hs]⟩
 have hj:j < k:=by
  rcases Nat.lt_or_ge j k with h | h
  ·exact h
  ·rw [List.getElem?_eq_none (by simpa using h)] at hd; cases hd
 simp [hj] at hd;subst hd
 refine ⟨v3 _ _ _ _,hs,fun q u hq=>?_⟩
 have hqs:q < sz:=by
  rcases Nat.lt_or_ge q zv.cells.size with h' | h'
  ·omega
  ·rw [Array.getElem?_eq_none h'] at hq; cases hq
 have hlt:j*sz+q < k*sz:=by
  have:(j+1)*sz≤k*sz:=Nat.mul_le_mul_right _ hj;rw [Nat.succ_mul] at this; omega
 have hmod:(j*sz+q) % zv.cells.size=q:=by rw [hs,Nat.mul_comm,Nat.mul_add_mod,Nat.mod_eq_of_lt hqs]
 unfold Builtin.zeroCells;simp only [Array.getElem?_map]
 rw [Array.getElem?_eq_getElem (by simpa [hs] using hlt)]
 simp only [Option.map_some,Array.getElem_range,hmod]
 have hqz:q < zv.cells.size:=by omega
 rw [Array.getElem?_eq_getElem hqz] at hq
 first
  | (rw [getElem!_pos zv.cells q hqz]; exact hq)
  | simpa using hq
theorem zyI {P:Program} (hm:Mem c N w0 O0 L w) (hs:Sees Lr L) {t:Nat} (ht0:t < 100000) (hnew:Lr t=L t) {ty ty2 rty:TypeId} {kk:IntKind} {s:V} {su:Value} {m:Int} {o:Out} (ha:znR P Lr t ty s m=some o)
  (h2:P.underlying ty2=some (.int kk)) (hv:Val c L w N s su):
  ∃ u w',(Builtin.append_ #[ty,ty2] rty #[su,.int .i64 m]).run P w=.ok u w'∧Did c N w0 O0 L w o u w':=by
 have hnew':Lr.new t=L.new t:=by unfold Loc.new; rw [hnew]
 unfold znR at ha;rw [hnew'] at ha
 have htlt:(L t).1 < L.new t:=by simp [Loc.new]
 split at ha
 rotate_left
 ·cases ha
 rename_i g n off len;split at ha
 rotate_left
 ·cases ha
 rename_i sz' els hy
 cases hty:zcK P ty (len+m.toNat) with
 | none=>rw [hty] at ha; cases ha
 | some sz=>
 rw [hty] at ha;simp only [Option.bind_some] at ha;obtain ⟨e,i,z,zv,t1,t2,t3,t4,t5,t6,t7,t8,t9,t10⟩:=ziN hty;rw [t1] at ha;dsimp only at ha
 cases hz:zgN P e with
 | none=>rw [hz] at ha; cases ha
 | some z'=>
 rw [hz] at ha;dsimp only at ha;obtain ⟨i',zv',z1,z2,z3⟩:=zo8 hz;rw [t2] at z1; cases z1;rw [t4] at z2; cases z2;rw [t5] at z3; cases z3;split at ha
 rotate_left
 ·cases ha
 rename_i hc;obtain ⟨m0,hle,rfl,hgs⟩:=hc;injection ha with ha; subst ha
 obtain ⟨k,rfl⟩:∃ k:Nat,m=(k:Int):=⟨m.toNat,by omega⟩
 rw [Int.toNat_natCast] at*;obtain ⟨n3,n2⟩:=zCe (A:=own c L) (γ:=c.γ) (w:=w) (N:=N) (k:=k) t5 t7
 have hzs:zv.cells.size=sz':=by rw [(zde t5).1]; exact t7
 have hw1:IntKind.i64.wrap (k:Int)=k:=ztZ (by omega) (by omega)
 have hw3:¬ (281474976710656 < (k:Int)*i.bytes):=by
  have h1:k*i.bytes≤2 ^ 32*4096:=Nat.mul_le_mul (by omega) t9
  have h2:((k*i.bytes:Nat):Int)=(k:Int)*i.bytes:=Int.natCast_mul ..;rw [←h2]; omega
 have hL:=hs g n (by rw [hy]; simp)
 rw [hy] at hL
 obtain ⟨e1,e2⟩:=zbM hL (by simp)
 have hnt:∀ k,tb k≠g:=hm.live_tab (by rw [e2]; rfl)
 have hml:=Mem.less hm g .dead hnt (.inl rfl);have hgl:=Grow.less hm g .dead (.inl rfl);rw [e1] at hml hgl
 have htl:(((L.upd [(g,(n,HObj.dead))]) t).1) < L.new t:=by
  simp only [Loc.upd]
  by_cases hgt:t=g
  ·subst hgt; rw [Loc.set_same]; simp [Loc.new,e1]
  ·rw [Loc.set_ne _ _ hgt]; exact htlt
 have hxl:(List.replicate k z).length=k:=by simp
 obtain ⟨hdm,hdg⟩:=Mem.drew hm
 cases hv with
 | ref _ _ _ _ _ k1 k2 k3=>
  obtain ⟨_,a,cap,rfl,p3,p4⟩:=k2 _ _ _ hL
  by_cases hroom:len+k≤cap
  ·rcases p4 with rfl | ⟨b,y,T,fz,r1,rfl,r3,r4⟩
   ·have hx0:k=0:=by omega
    have hl0:len=0:=by omega
    have he0:els=[]:=List.eq_nil_of_length_eq_zero (by omega)
    subst hx0; subst hl0; subst he0
    have:=zqb (P:=P) (ty2:=ty2) (rty:=rty) (a:=a) (sLen:=0) (sCap:=0) (n:=0) (w:=w) (w':=w) t1 t2 t3 t4 hzs hw1 hw3 h2 (by simp) (by
     have:Builtin.zeroCells zv.cells 0=#[]:=by simp [Builtin.zeroCells]
     rw [this]; cases a<;>simp [storeCells])
    exact ⟨_,_,by simpa using this,by simpa using zvi t sz' a (wr:=[(g,(n,.dead))]) ht0 hml hgl htl⟩
   ·have hob:=hm.get hL (by simp)
    rw [r1] at hob;obtain ⟨x',T',fz',g2,g3,g4,us,g5⟩:=hob;rw [r3] at g2; cases g2
    have hsc:len*sz'+(Builtin.zeroCells zv.cells k).toList.length≤y.size:=by
     have:(len+k)*sz'≤cap*sz':=Nat.mul_le_mul_right _ hroom;rw [Nat.add_mul] at this
     have h0:(0+cap)*sz'=cap*sz':=by rw [Nat.zero_add]
     rw [Array.length_toList]; omega
    have hst:=zdJ (P:=P) (b:=b) (o:=len*sz') (T:=T) (fz:=fz) (Builtin.zeroCells zv.cells k).toList 0 y w r3 (by simpa using hsc) (fun j _ hj=>g3 j (by simp at hj hsc; omega))
     (fun u hu=>by
      unfold Builtin.zeroCells at hu;simp at hu;obtain ⟨q,hq,rfl⟩:=hu
      have hpos:0 < zv.cells.size:=by omega
      have hlt:=Nat.mod_lt q hpos;rw [getElem!_pos zv.cells _ hlt];exact (zde t5).2.1 t8 _ _ (Array.getElem?_eq_getElem hlt))
    have:=zqb (P:=P) (ty2:=ty2) (rty:=rty) (a:=some ⟨b,0*sz',none⟩) (sLen:=len) (sCap:=cap) (n:=k) (w:=w) (w':=put w b (splice y (len*sz') (Builtin.zeroCells zv.cells k).toList) T fz) t1 t2 t3 t4 hzs hw1 hw3 h2 hroom (by
     simp only [Addr.add_lit,Nat.zero_mul,Nat.zero_add]; simpa using hst)
    refine ⟨_,_,this,?_⟩
    have:=zz0 hm (t:=t) (cap:=cap) ht0 hL r1 r3 hle (by simpa using r4) (by rw [hxl]; exact hroom) n3 (by rw [hxl]; exact n2) hgs
    simpa using this
  ·have hold:∃ ox,(∀ w':World,(∀ a,w'.cell? a=w.cell? a)→(Builtin.firstCells sz' len (.slice a len cap)).run P w'=.ok ox w')∧ox.size=els.length*sz'∧zfU w (own c L) N c.γ sz' els ox:=by
    by_cases h0:len=0
    ·subst h0
     have he0:els=[]:=List.eq_nil_of_length_eq_zero (by omega)
     subst he0
     refine ⟨#[],fun w' _=>?_,by simp,zfU.nil⟩
     cases a<;>simp [Builtin.firstCells,loadCells,loadCellsFrom]
    ·rcases p4 with h' | ⟨b,y,T,fz,r1,rfl,r3,r4⟩
     ·omega
     ·have hob:=hm.get hL (by simp)
      rw [r1] at hob;obtain ⟨x',T',fz',g2,g3,g4,us,g5⟩:=hob
      obtain ⟨ox,o1,o2,o3,_⟩:=zfA (P:=P) (w:=w) (l:=els) (b:=b) (o:=0*sz') (cap:=cap) (vs:=us) (fun i d hd=>by
       obtain ⟨s1,s2,s3⟩:=g5 i d hd;rw [Nat.zero_mul,Nat.zero_add]; exact ⟨s1,s2,s3⟩)
      rw [←hle] at o1;exact ⟨ox,o1,o2,o3⟩
   obtain ⟨ox,o1,o2,o3⟩:=hold
   obtain ⟨cap2,cx,q1,q2,q3,q4⟩:=zxa (P:=P) (ty2:=ty2) (rty:=rty) (a:=a) (sLen:=len) (sCap:=cap) (n:=k) (old:=ox) t1 t2 t3 t4
    hzs t9 t10 hw1 hw3 h2 (fun k=>o1 _ fun _=>rfl) (by omega) (by rw [o2,hle])
   refine ⟨_,_,q4,Did.drew hdg ?_⟩;obtain ⟨hdm2,hdg2⟩:=Mem.drew hml
   have:=zo7 (t:=t) (sz:=sz') (els:=els++List.replicate k z) (x:=cx) (T:=e) (wr:=[(g,(n,.dead))]) (cap:=cap2) ht0
    (zfU.append (z:=cx) ((o3.grow hgl).grow hdg2) ((n3.grow hgl).grow hdg2) o2 (by rw [hxl]; exact n2) (fun q hq=>q3 q (by rw [hxl] at hq; rw [hle]; exact hq))) hdm2 (by
     have:=Grow.less hdm g .dead (.inl rfl)
     rw [e1] at this; exact this) htl (by omega) (by rw [List.length_append,hxl]; omega)
   rw [List.length_append,hxl,←hle] at this;simpa using this
end
end Wf

namespace Wf
open Go Go.RowKit
def zdD (w:World) (A:Nat→Prop) (N:Nat) (γ:Nat→Nat→Option Nat) (ds:List D) (x:Array Value):Prop:=
 x.size=ds.length∧∀ (i:Nat) (d:D) (u:Value),ds[i]? =some d→x[i]? =some u→Rep w A N γ d u∧u.oneCell'=true
theorem zdD.splice {w:World} {A N γ} {ds xs:List D} {x:Array Value} {off:Nat} {vs:List Value} (h:zdD w A N γ ds x) (hr:Reps w A N γ xs vs) (h1:∀ v∈vs,v.oneCell'=true)
  (ho:off+xs.length≤ds.length):zdD w A N γ (ds.take off++xs++ds.drop (off+xs.length)) (splice x off vs):=by
 have hvl:=hr.1;have hx:=h.1
 refine ⟨by rw [zc0 (by omega),hx]; simp; omega,fun i d u hd hu=>?_⟩
 rw [zco ho] at hd
 rw [zcx (by omega),hvl] at hu
 split at hd
 ·rename_i hi;rw [if_pos hi] at hu;exact ⟨hr.2 _ _ _ hd hu,h1 u (List.mem_of_getElem? hu)⟩
 ·rename_i hi;rw [if_neg hi] at hu;exact h.2 i d u hd hu
theorem zvl {w:World} {A N γ} {pl pl':Nat→Option (Nat×Nat)} (hp:∀ i p,pl i=some p→pl' i=some p):∀ (is:List Nat) (ds:List D) (us:List Value) (cs cs':List D) (x:Array Value),
  lay pl cs (is.zip ds)=some cs'→Reps w A N γ ds us→zdD w A N γ cs x→∃ x',Instr.fill pl' x (is.zip us)=some x'∧zdD w A N γ cs' x'
 | [],ds,us,cs,cs',x,h,_,hc=>by simp [lay] at h; subst h; exact ⟨x,by simp [Instr.fill],hc⟩
 | i::is,[],us,cs,cs',x,h,hr,hc=>by
  simp [lay] at h; subst h;have:us=[]:=hr.nil_inv;subst this
  exact ⟨x,by simp [Instr.fill],hc⟩
 | i::is,d::ds,us,cs,cs',x,h,hr,hc=>by
  obtain ⟨u,us',rfl,hu,hus⟩:=hr.cons_inv;simp only [List.zip_cons_cons,lay] at h ⊢
  cases hpi:pl i with
  | none=>rw [hpi] at h; cases h
  | some p=>
   obtain ⟨off,size⟩:=p;rw [hpi] at h;dsimp only at h;have hx:=hc.1
   by_cases hag:∃ xs,d=.agg xs
   ·obtain ⟨xs,rfl⟩:=hag;dsimp only at h;split at h
    ·rename_i hc2;obtain ⟨q1,q2⟩:=hc2
     cases hu':u with
     | agg vs=>
      rw [hu'] at hu;obtain ⟨r1,r2⟩:=zzW hu
      have hvs:vs.size=size:=by have:=r1.1; simp at this; omega
      rw [ziO (hp _ _ hpi) (by simpa [Value.cells] using hvs) (by omega)]
      refine zvl hp is ds us' _ cs' _ h hus ?_
      have:=hc.splice r1 r2 (off:=off) (by omega)
      rw [q1] at this; exact this
     | _=>rw [hu'] at hu; cases hu
    ·cases h
   ·have hd:d.cell=true∧(if size=1∧off+1≤cs.length then lay pl (cs.set off d) (is.zip ds) else none)=some cs':=by
     cases d<;>first | exact ⟨rfl,h⟩ | cases h | exact absurd ⟨_,rfl⟩ hag
    obtain ⟨hcell,h'⟩:=hd;split at h'
    ·rename_i hc2;obtain ⟨rfl,q2⟩:=hc2;have ho:=hu.cell hcell;obtain ⟨o1,o2,o3⟩:=ziL ho
     rw [ziO (hp _ _ hpi) o2 (by omega),o1]
     refine zvl hp is ds us' _ cs' _ h' hus ?_
     have:=hc.splice (zEs hu) (by simpa using ho) (off:=off) (by simp; omega)
     simp only [List.length_singleton] at this
     rw [←zlO (by omega)] at this; exact this
    ·cases h'
theorem zz3 {α β:Type} {P:Program} {w:World} {f:α→Sem β} {g:α→β}:∀ (l:List α),(∀ x∈l,(f x).run P w=.ok (g x) w)→(l.mapM f).run P w=.ok (l.map g) w
 | [],_=>by simp
 | x::l,h=>by
  have:=zz3 (f:=f) (g:=g) l (fun y hy=>h y (by simp [hy]))
  simp [List.mapM_cons,h x (by simp),this]
section
variable {c:Ctx} {N:Nat} {w0:World} {O0:Nat→Prop} {L Lr:Loc} {w:World}
def zgO (c:Ctx) (L:Loc) (w:World) (N:Nat) (us:List V) (x:Array Value):Prop:=
 x.size=us.length∧∀ (i:Nat) (v:V) (u:Value),us[i]? =some v→x[i]? =some u→Val c L w N v u∧u.oneCell'=true
theorem zgO.splice {us vs:List V} {x:Array Value} {off:Nat} {ws:List Value} (h:zgO c L w N us x) (hr:Vals c L w N vs ws) (h1:∀ v∈ws,v.oneCell'=true)
  (ho:off+vs.length≤us.length):zgO c L w N (us.take off++vs++us.drop (off+vs.length)) (splice x off ws):=by
 have hvl:=hr.1;have hx:=h.1
 refine ⟨by rw [zc0 (by omega),hx]; simp; omega,fun i d u hd hu=>?_⟩
 rw [zco ho] at hd
 rw [zcx (by omega),hvl] at hu
 split at hd
 ·rename_i hi;rw [if_pos hi] at hu;exact ⟨hr.2 _ _ _ hd hu,h1 u (List.mem_of_getElem? hu)⟩
 ·rename_i hi;rw [if_neg hi] at hu;exact h.2 i d u hd hu
theorem znX {pl pl':Nat→Option (Nat×Nat)} (hs:Sees Lr L) (hp:∀ i p,pl i=some p→pl' i=some p):∀ (parts:List (Nat×V)) (us:List Value) (ds:List D) (ks:List Nat) (vs:List V) (st':List D×List Nat×List V) (x:Array Value),
  layV pl (ds,ks,vs) parts=some st'→(∀ p∈parts,zeF Lr p.2=true)→Vals c L w N (parts.map (·.2)) us→zgO c L w N (ovs ks vs (ds.map .d)) x→
  ∃ x',Instr.fill pl' x ((parts.map (·.1)).zip us)=some x'∧zgO c L w N (ovs st'.2.1 st'.2.2 (st'.1.map .d)) x'
 | [],us,ds,ks,vs,st',x,h,_,_,hc=>by
  simp [layV] at h; subst h; exact ⟨x,by simp [Instr.fill],hc⟩
 | (i,v)::parts,us,ds,ks,vs,st',x,h,hok,hr,hc=>by
  obtain ⟨u,us',rfl,hu,hus⟩:=Vals.cons_inv hr
  have hok':∀ p∈parts,zeF Lr p.2=true:=fun p hp=>hok p (by simp [hp])
  have hokv:zeF Lr v=true:=hok (i,v) (by simp)
  simp only [List.map_cons,List.zip_cons_cons,layV] at h ⊢
  cases hpi:pl i with
  | none=>rw [hpi] at h; cases h
  | some p=>
  obtain ⟨off,size⟩:=p;rw [hpi] at h;dsimp only at h;have hx:=hc.1;rw [zcE,List.length_map] at hx
  have one:∀ {ds':List D} {ks':List Nat} {vs':List V},u.oneCell'=true→size=1→off+1≤ds.length→
    ovs ks' vs' (ds'.map .d)=(ovs ks vs (ds.map .d)).take off++[v]++(ovs ks vs (ds.map .d)).drop (off+[v].length)→
    layV pl (ds',ks',vs') parts=some st'→∃ x',Instr.fill pl' x ((i,u)::(parts.map (·.1)).zip us')=some x'∧zgO c L w N (ovs st'.2.1 st'.2.2 (st'.1.map .d)) x':=by
   intro ds' ks' vs' ho hsz hle he hl;subst hsz;obtain ⟨o1,o2,o3⟩:=ziL ho
   rw [ziO (hp _ _ hpi) o2 (by omega),o1]
   refine znX hs hp parts us' _ _ _ st' _ hl hok' hus ?_;rw [he]
   exact hc.splice (vs:=[v]) (ws:=[u]) ⟨rfl,fun j v' u' hv' hu'=>by
    cases j with
    | zero=>simp at hv' hu'; subst hv'; subst hu'; exact hu
    | succ j=>simp at hv'⟩ (by simpa using ho) (by rw [zcE]; simpa using hle)
  have other:(if size=1∧off+1≤ds.length∧v.one=true then layV pl (ds,off::(zdW off 1 ks vs).1,v::(zdW off 1 ks vs).2) parts else none)=some st'→
    ∃ x',Instr.fill pl' x ((i,u)::(parts.map (·.1)).zip us')=some x'∧zgO c L w N (ovs st'.2.1 st'.2.2 (st'.1.map .d)) x':=by
   intro h1;split at h1
   ·rename_i hc1;obtain ⟨q1,q2,q3⟩:=hc1
    exact one (znV hs hokv q3 hu) q1 q2 (zvf ds ks vs v off (by omega)) h1
   ·cases h1
  cases v with
  | d z=>
   by_cases hagg:∃ xs,z=.agg xs
   ·obtain ⟨xs,rfl⟩:=hagg;dsimp only at h;split at h
    ·rename_i hc1;obtain ⟨q1,q2⟩:=hc1;obtain ⟨ws,rfl,w1,_⟩:=hu.datAgg;obtain ⟨r1,r2⟩:=zzW hu.dat
     rw [ziO (hp _ _ hpi) (by simp only [Value.cells]; omega) (by omega)]
     refine znX hs hp parts us' _ _ _ st' _ h hok' hus ?_
     have:=zvd ds xs ks vs off (by omega)
     rw [q1] at this;rw [this]
     refine hc.splice (vs:=xs.map .d) (ws:=ws.toList) ⟨by simpa using r1.1,fun j v' u' hv' hu'=>?_⟩ r2 (by rw [zcE]; simp; omega)
     rw [List.getElem?_map] at hv'
     cases hd:xs[j]? with
     | none=>rw [hd] at hv'; cases hv'
     | some d=>rw [hd] at hv'; simp at hv'; subst hv'; exact .d _ _ (r1.2 j d u' hd hu')
    ·cases h
   ·have h':z.cell=true∧(if size=1∧off+1≤ds.length then layV pl (ds.set off z,zdW off 1 ks vs) parts else none)=some st':=by
     cases z<;>first | exact ⟨rfl,h⟩ | cases h | exact absurd ⟨_,rfl⟩ hagg
    obtain ⟨hcell,h'⟩:=h';split at h'
    ·rename_i hc1;obtain ⟨q1,q2⟩:=hc1;refine one (hu.dat.cell hcell) q1 q2 ?_ h'
     rw [zlO (by omega)]
     have:=zvd ds [z] ks vs off (by simp; omega)
     simp only [List.length_singleton,List.map_cons,List.map_nil] at this ⊢;exact this
    ·cases h'
  | agg xs ks' vs'=>
   dsimp only at h;split at h
   ·rename_i hc1;obtain ⟨q1,q2,q3⟩:=hc1;subst q1;obtain ⟨w1,w2,w3⟩:=zhi q3
    cases hu with
    | agg _ _ _ ws a1 a2 a3=>
    rw [ziO (hp _ _ hpi) (by simpa [Value.cells] using a1) (by omega)]
    refine znX hs hp parts us' _ _ _ st' _ h hok' hus ?_;rw [zve ds xs ks ks' vs vs' off q2 w2 w3]
    refine hc.splice (vs:=ovs ks' vs' (xs.map .d)) (ws:=ws.toList) ⟨by rw [zcE]; simpa using a1,fun j v' u' hv' hu'=>a2 j v' u' hv' (by simpa using hu')⟩ (fun u' hu'=>?_) (by rw [zcE,zcE]; simpa using q2)
    obtain ⟨j,hj,rfl⟩:=List.mem_iff_getElem.1 hu'
    exact a3 j _ (by simp at hj ⊢)
   ·cases h
  | _=>exact other h
theorem zCf {P:Program} (hm:Mem c N w0 O0 L w) (hs:Sees Lr L) {t:TypeId} {parts:List (Nat×V)} {us:List Value} {o:V} (ha:zzP P Lr t parts=some o)
  (hv:Vals c L w N (parts.map (·.2)) us):
  ∃ u,(Instr.build t ((parts.map (·.1)).zip us).toArray).run P w=.ok u w∧Val c L w N o u:=by
 unfold zzP at ha;split at ha
 rotate_left
 ·cases ha
 rename_i zs pl hz hpl;obtain ⟨i,zv,z1,z2,z3⟩:=zo8 hz;obtain ⟨v1,v2,v3⟩:=zde z3
 have hzero:∀ w,(zeroValue t).run P w=.ok zv w:=fun w=>by simp [zeroValue,typeInfo,z1,z2]
 have hcr:zdD w (own c L) N c.γ zs zv.cells:=by
  have hr:=v3 w (own c L) N c.γ
  refine ⟨by simpa [D.width] using v1,fun k d u hd hu=>⟨?_,v2 rfl k u hu⟩⟩
  cases hzv:zv with
  | agg vs=>
   rw [hzv] at hr hu
   cases hr with
   | agg _ _ q1 q2 q3=>exact q2 k d u hd hu
  | _=>rw [hzv] at hr; cases hr
 have hfill:∀ pl':Nat→Option (Nat×Nat),(∀ i p,pl i=some p→pl' i=some p)→∃ x',Instr.fill pl' zv.cells ((parts.map (·.1)).zip us)=some x'∧Val c L w N o (.agg x'):=by
  intro pl' hp;split at ha
  ·rename_i ds hdat
   cases hl:lay pl zs ((parts.map (·.1)).zip ds) with
   | none=>rw [hl] at ha; cases ha
   | some cs=>
   rw [hl] at ha;injection ha with ha; subst ha;have hmap:=zBZ hdat;rw [hmap] at hv
   have hr:Reps w (own c L) N c.γ ds us:=⟨by simpa using hv.1,fun j d u hd hu=>(hv.2 j (.d d) u (by simp [hd]) hu).dat⟩
   obtain ⟨x',f1,f2⟩:=zvl hp _ _ us _ _ zv.cells hl hr hcr
   refine ⟨x',f1,.d _ _ (.agg _ _ f2.1 (fun i d v hd hv=>(f2.2 i d v hd hv).1) fun i v hv=>?_)⟩
   have hi:i < cs.length:=by have:=zdd hv; have:=f2.1; omega
   exact (f2.2 i _ v (List.getElem?_eq_getElem hi) hv).2
  ·split at ha
   rotate_left
   ·cases ha
   rename_i hall
   cases hl:layV pl (zs,[],[]) parts with
   | none=>rw [hl] at ha; cases ha
   | some st'=>
   rw [hl] at ha;injection ha with ha; subst ha
   obtain ⟨x',f1,f2⟩:=znX (c:=c) (w:=w) (N:=N) hs hp parts us zs [] [] st' zv.cells hl (fun p hp=>by rw [List.all_eq_true] at hall; exact hall p hp) hv ⟨by rw [zcE]; simpa using hcr.1,fun j v u hv hu=>by
    rw [zGs,List.getElem?_map] at hv
    cases hd:zs[j]? with
    | none=>rw [hd] at hv; cases hv
    | some d=>
     rw [hd] at hv; simp at hv; subst hv;exact ⟨.d _ _ (hcr.2 j d u hd hu).1,(hcr.2 j d u hd hu).2⟩⟩
   have hlen:=f2.1;rw [zcE,List.length_map] at hlen
   refine ⟨x',f1,Val.mk hlen (fun i v u hv hu=>(f2.2 i v u hv hu).1) fun i u hu=>?_⟩
   have hi:=zdd hu
   exact (f2.2 i ((ovs st'.2.1 st'.2.2 (st'.1.map .d))[i]'(by rw [zcE,List.length_map]; omega)) u (List.getElem?_eq_getElem _) hu).2
 unfold zu4 at hpl;split at hpl
 ·rename_i fs hu;split at hpl
  ·rename_i hall;injection hpl with hpl; subst hpl
   have hsz:∀ f∈fs.toList,∃ n,zb9 P f.type=some n:=by
    intro f hf;obtain ⟨k,hk,rfl⟩:=List.mem_iff_getElem.1 hf;rw [List.all_eq_true] at hall
    have:=hall k (by simp at hk ⊢; exact hk)
    obtain ⟨⟨off,n⟩,hn⟩:=Option.isSome_iff_exists.1 this;obtain ⟨fs',x,h1,h2,_,h4⟩:=zw6 hn;rw [hu] at h1; cases h1;refine ⟨n,?_⟩
    have:fs[k]? =some (fs.toList[k]):=by simp
    rw [this] at h2; cases h2; exact h4
   let g:Field→Nat×Nat:=fun f=>(f.offset,(zb9 P f.type).getD 0)
   have hmap:(fs.mapM fun (f:Field)=>do pure (f.offset,←Go.sizeOf f.type):Sem (Array (Nat×Nat))).run P w=.ok (fs.toList.map g).toArray w:=by
    rw [Array.mapM_eq_mapM_toList]
    have:=zz3 (P:=P) (w:=w) (f:=fun (f:Field)=>(do pure (f.offset,←Go.sizeOf f.type):Sem (Nat×Nat))) (g:=g) fs.toList (by
     intro f hf;obtain ⟨n,hn⟩:=hsz f hf;simp [zdI hn,g,hn])
    rw [Sem.run_map,this];rfl
   obtain ⟨x',f1,f2⟩:=hfill (fun i=>(fs.toList.map g).toArray[i]?) (by
    rintro k ⟨off,n⟩ hk
    obtain ⟨fs',x,h1,h2,rfl,h4⟩:=zw6 hk;rw [hu] at h1; cases h1;simp [h2,g,h4])
   refine ⟨.agg x',?_,f2⟩;unfold Instr.build;simp only [Sem.run_bind,hzero,Result.andThen_ok,zbt hu];rw [hmap];simp only [Result.andThen_ok];rw [f1];rfl
  ·cases hpl
 ·rename_i n e hu
  cases hsz:zb9 P e with
  | none=>rw [hsz] at hpl; cases hpl
  | some sz=>
   rw [hsz] at hpl;injection hpl with hpl; subst hpl
   obtain ⟨x',f1,f2⟩:=hfill (fun i=>some (i*sz,sz)) (fun _ _ h=>h)
   refine ⟨.agg x',?_,f2⟩;unfold Instr.build;simp only [Sem.run_bind,hzero,Result.andThen_ok,zbt hu,zdI hsz];rw [f1];rfl
 ·cases hpl
end
end Wf

namespace Wf
open Go
theorem zz4 {P:Program} {t:TypeId} {k:MK} {et:TypeId} (h:zl9 P t=some (k,et)):∃ kt,P.underlying t=some (.map kt et)∧zwQ P kt=some k:=by
 unfold zl9 at h;split at h
 ·rename_i kt et' hu
  cases hk:zwQ P kt with
  | none=>rw [hk] at h; cases h
  | some k'=>
   rw [hk] at h; simp at h; obtain ⟨rfl,rfl⟩:=h;exact ⟨kt,hu,hk⟩
 ·cases h
theorem zqc {kk:IntKind} {n:Int}:∀ (m:List MapEntry) (es:List (Int×D)) (i0:Nat),m.length=es.length→(∀ (i:Nat) (e:MapEntry) (p:Int×D),m[i]? =some e→es[i]? =some p→e.key=.int kk p.1)→
  (∃ (j:Nat) (e:MapEntry) (x:D),Instr.findNow (.int kk) (.int kk n) m i0=some (some (i0+j,e.val))∧m[j]? =some e∧es[j]? =some (n,x)∧ziI n es=some x∧(∀ y,setD n y es=es.set j (n,y)))∨
  (Instr.findNow (.int kk) (.int kk n) m i0=some none∧ziI n es=none∧∀ y,setD n y es=es++[(n,y)])
 | [],[],_,_,_=>.inr ⟨rfl,rfl,fun _=>rfl⟩
 | [],_::_,_,h,_=>by simp at h
 | _::_,[],_,h,_=>by simp at h
 | e::m,(a,x)::es,i0,h,hk=>by
  have hk0:=hk 0 e (a,x) (by simp) (by simp)
  by_cases hn:n=a
  ·subst hn
   refine .inl ⟨0,e,x,?_,by simp,by simp,by simp [ziI],fun y=>by simp [setD]⟩
   simp [Instr.findNow,hk0,Instr.sameNow]
  ·have hne:(n == a)=false:=by simpa using hn
   rcases zqc m es (i0+1) (by simpa using h) (fun i e' p h1 h2=>hk (i+1) e' p (by simpa using h1) (by simpa using h2)) with ⟨j,e',x',h1,h2,h3,h4,h5⟩ | ⟨h1,h2,h3⟩
   ·refine .inl ⟨j+1,e',x',?_,by simpa using h2,by simpa using h3,by simp [ziI,hn,h4],fun y=>by simp [setD,hn,h5 y]⟩
    simp only [Instr.findNow,hk0,Instr.sameNow,if_true,hne];rw [h1]; congr 3; omega
   ·refine .inr ⟨?_,by simp [ziI,hn,h2],fun y=>by simp [setD,hn,h3 y]⟩
    simp only [Instr.findNow,hk0,Instr.sameNow,if_true,hne];exact h1
theorem zxb {w:World} {P:Program} {kt:TypeId} {k:IntKind} (e:Bool) (f:Nat) (n:Int) (h:P.underlying kt=some (.int k)):(Instr.checkKey e (f+1) kt (.int k n)).run P w=.ok () w:=by
 simp [Instr.checkKey,zbt h]
theorem zru {P:Program} {e:TypeId} {w:World} (h2:P.underlying e=some (.int .i64)) (a b:Int):
  (part e #[.int .i64 a,.int .i64 b] 0).run P w=.ok (.int .i64 a) w∧(part e #[.int .i64 a,.int .i64 b] 1).run P w=.ok (.int .i64 b) w:=by
 have:(isAgg e).run P w=.ok false w:=by unfold isAgg; simp [zbt h2]
 constructor<;>simp [part,this]
theorem zvm {P:Program} {kt e:TypeId} {w:World} (h1:P.underlying kt=some (.array 2 e)) (h2:P.underlying e=some (.int .i64)) (h3:zb9 P e=some 1) (em:Bool) (f:Nat) (a b:Int):
  (Instr.checkKey em (f+2) kt (znL a b)).run P w=.ok () w:=by
 obtain ⟨p0,p1⟩:=zru (P:=P) (w:=w) h2 a b;have hs:=zdI h3 w;simp [Instr.checkKey,zbt h1,zbt h2,znL,Std.Legacy.Range.forIn_eq_forIn_range',List.range',hs,p0,p1]
theorem zyJ {P:Program} {e:TypeId} {w:World} (h2:P.underlying e=some (.int .i64)) (f:Nat) (x y:Int):(Op.equalIn (f+1) e (.int .i64 x) (.int .i64 y)).run P w=.ok (x == y) w:=by
 simp [Op.equalIn,zbt h2]
theorem zxc {P:Program} {kt e:TypeId} {w:World} (h1:P.underlying kt=some (.array 2 e)) (h2:P.underlying e=some (.int .i64)) (h3:zb9 P e=some 1) (f:Nat) (a b c d:Int):
  (Op.equalIn (f+1+1) kt (znL a b) (znL c d)).run P w=.ok (decide (a=c∧b=d)) w:=by
 have p0:=fun a b=>(zru (P:=P) (w:=w) h2 a b).1
 have p1:=fun a b=>(zru (P:=P) (w:=w) h2 a b).2
 have hs:=zdI h3 w
 have he:=fun x y=>zyJ (w:=w) h2 f x y
 unfold Op.equalIn
 by_cases e1:a=c<;>by_cases e2:b=d<;>simp [zbt h1,znL,Std.Legacy.Range.forIn_eq_forIn_range',List.range',hs,p0,p1,he,e1,e2]
theorem zA2 {P:Program} {kt e:TypeId} {w:World} (h1:P.underlying kt=some (.array 2 e)) (h2:P.underlying e=some (.int .i64)) (h3:zb9 P e=some 1) (a b c d:Int):
  (Op.equal kt (znL a b) (znL c d)).run P w=.ok (decide (a=c∧b=d)) w:=zxc h1 h2 h3 9998 a b c d
theorem zkH {P:Program} {kt e:TypeId} {w:World} (h1:P.underlying kt=some (.array 2 e)) (h2:P.underlying e=some (.int .i64)) (h3:zb9 P e=some 1) (a b:Int):∀ (m:List MapEntry) (es:List (Int×D)) (i0:Nat),m.length=es.length→
  (∀ (i:Nat) (e:MapEntry) (p:Int×D),m[i]? =some e→es[i]? =some p→∃ x y,p.1=zfx x y∧e.key=znL x y)→
  (∃ (j:Nat) (e:MapEntry) (x:D),(Instr.findAsking kt (znL a b) m i0).run P w=.ok (some (i0+j,e.val)) w∧m[j]? =some e∧es[j]? =some (zfx a b,x)∧ziI (zfx a b) es=some x∧(∀ y,setD (zfx a b) y es=es.set j (zfx a b,y)))∨
  ((Instr.findAsking kt (znL a b) m i0).run P w=.ok none w∧ziI (zfx a b) es=none∧∀ y,setD (zfx a b) y es=es++[(zfx a b,y)])
 | [],[],_,_,_=>.inr ⟨rfl,rfl,fun _=>rfl⟩
 | [],_::_,_,h,_=>by simp at h
 | _::_,[],_,h,_=>by simp at h
 | en::m,(k,x)::es,i0,h,hk=>by
  obtain ⟨c,d,k1,k2⟩:=hk 0 en (k,x) (by simp) (by simp)
  simp only at k1; subst k1;have heq:=zA2 (w:=w) h1 h2 h3 a b c d
  by_cases hn:a=c∧b=d
  ·obtain ⟨rfl,rfl⟩:=hn
   refine .inl ⟨0,en,x,?_,by simp,by simp,by simp [ziI],fun y=>by simp [setD]⟩
   simp [Instr.findAsking,k2,heq]
  ·have hne:¬ zfx a b=zfx c d:=fun e=>hn ((zre ..).1 e)
   rcases zkH h1 h2 h3 a b m es (i0+1) (by simpa using h) (fun i e' p h1 h2=>hk (i+1) e' p (by simpa using h1) (by simpa using h2)) with ⟨j,e',x',h1,h2,h3,h4,h5⟩ | ⟨h1,h2,h3⟩
   ·refine .inl ⟨j+1,e',x',?_,by simpa using h2,by simpa using h3,by simp [ziI,hne,h4],fun y=>by simp [setD,hne,h5 y]⟩
    simp only [Instr.findAsking,k2,Sem.run_bind,heq,Result.andThen_ok,hn,decide_false,Bool.false_eq_true,if_false];rw [h1]; congr 3; omega
   ·refine .inr ⟨?_,by simp [ziI,hne,h2],fun y=>by simp [setD,hne,h3 y]⟩
    simp only [Instr.findAsking,k2,Sem.run_bind,heq,Result.andThen_ok,hn,decide_false,Bool.false_eq_true,if_false];exact h1
theorem zhm {P:Program} {t:TypeId} {k:IntKind} (h:zs9 P t=some k):P.underlying t=some (.int k):=by
 unfold zs9 at h;split at h
 ·rename_i k' hk;injection h with h; subst h; exact hk
 ·cases h
theorem zrv {P:Program} {kt:TypeId} {mk:MK} (h:zwQ P kt=some mk) {n:Int} {ku:Value} (hk:zmR mk n ku) (em:Bool) (w:World):(Instr.checkKey em 10000 kt ku).run P w=.ok () w:=by
 unfold zwQ at h;split at h
 ·rename_i k hu;injection h with h; subst h;cases hk;exact zxb em 9999 n hu
 ·rename_i m e hu;split at h
  ·rename_i hc;injection h with h; subst h;obtain ⟨a,b,_,rfl⟩:=hk;obtain ⟨rfl,h2,h3⟩:=hc;exact zvm hu (zhm h2) h3 em 9998 a b
  ·cases h
 ·cases h
theorem zz5 {P:Program} {kt:TypeId} {mk:MK} (h:zwQ P kt=some mk) {n:Int} {ku:Value} (hk:zmR mk n ku) (w:World) (m:List MapEntry) (es:List (Int×D)) (hlen:m.length=es.length)
  (hes:∀ (i:Nat) (e:MapEntry) (p:Int×D),m[i]? =some e→es[i]? =some p→zmR mk p.1 e.key):
  (∃ (j:Nat) (e:MapEntry) (x:D),(Instr.findKey kt ku m).run P w=.ok (some (j,e.val)) w∧m[j]? =some e∧es[j]? =some (n,x)∧ziI n es=some x∧(∀ y,setD n y es=es.set j (n,y)))∨
  ((Instr.findKey kt ku m).run P w=.ok none w∧ziI n es=none∧∀ y,setD n y es=es++[(n,y)]):=by
 unfold zwQ at h;split at h
 ·rename_i k hu;injection h with h; subst h;cases hk;rcases zqc (n:=n) m es 0 hlen hes with ⟨j,e,x,f1,f2,f3,f4,f5⟩ | ⟨f1,f2,f3⟩
  ·exact .inl ⟨j,e,x,by simp [Instr.findKey,zbt hu,f1],f2,f3,f4,f5⟩
  ·exact .inr ⟨by simp [Instr.findKey,zbt hu,f1],f2,f3⟩
 ·rename_i q e hu;split at h
  ·rename_i hc;injection h with h; subst h;obtain ⟨a,b,rfl,rfl⟩:=hk;obtain ⟨rfl,h2,h3⟩:=hc
   have hn:Instr.findNow (.array 2 e) (znL a b) m 0=none∨m=[]:=by
    cases m with
    | nil=>exact .inr rfl
    | cons x m=>exact .inl (by simp [Instr.findNow,Instr.sameNow])
   rcases hn with hn | rfl
   ·rcases zkH (w:=w) hu (zhm h2) h3 a b m es 0 hlen hes with ⟨j,e,x,f1,f2,f3,f4,f5⟩ | ⟨f1,f2,f3⟩
    ·exact .inl ⟨j,e,x,by simpa [Instr.findKey,zbt hu,hn] using f1,f2,f3,f4,f5⟩
    ·exact .inr ⟨by simpa [Instr.findKey,zbt hu,hn] using f1,f2,f3⟩
   ·have:es=[]:=by cases es with
     | nil=>rfl
     | cons _ _=>simp at hlen
    subst this
    exact .inr ⟨by simp [Instr.findKey,zbt hu,Instr.findNow],rfl,fun _=>rfl⟩
  ·cases h
 ·cases h
theorem zvn {c:Ctx} {N:Nat} {L:Loc} {w:World} {mk:MK} {k:V} {n:Int} {ku:Value} (h:zwR mk k=some n) (hk:Val c L w N k ku):zmR mk n ku:=by
 unfold zwR at h;split at h
 ·split at h
  ·rename_i e; subst e; injection h with h; subst h; exact hk.int
  ·cases h
 ·injection h with h; subst h;have:=hk.dat
  cases this with
  | agg _ vs h1 h2=>
   refine ⟨_,_,rfl,?_⟩
   obtain ⟨v0,e0⟩:∃ v,vs[0]? =some v:=⟨vs[0]'(by rw [h1]; simp),by simp⟩
   obtain ⟨v1,e1⟩:∃ v,vs[1]? =some v:=⟨vs[1]'(by rw [h1]; simp),by simp⟩
   have r0:=h2 0 _ _ rfl e0;have r1:=h2 1 _ _ rfl e1;cases r0; cases r1;unfold znL;congr 1;apply Array.ext_getElem?;intro i
   match i with
   | 0=>simpa using e0
   | 1=>simpa using e1
   | i+2=>rw [Array.getElem?_eq_none (by rw [h1]; simp)]; simp
 ·cases h
theorem zCg {mk:MK} {n:Int} {u v:Value} (h:zmR mk n u) (h':zmR mk n v):Instr.sameBits 10000 v u=true:=by
 cases mk with
 | int k=>cases h; cases h'; simp [Instr.sameBits]
 | pair=>
  obtain ⟨a,b,e,rfl⟩:=h;obtain ⟨c,d,e',rfl⟩:=h';rw [e] at e';obtain ⟨rfl,rfl⟩:=(zre ..).1 e';simp [Instr.sameBits,znL]
end Wf

namespace Wf
open Go Go.RowKit
section
variable {c:Ctx} {N:Nat} {w0:World} {O0:Nat→Prop} {L Lr:Loc} {w:World}
theorem zz6 (w:World) (o:Obj):(w.alloc o).heap[w.heap.size]? =some o:=by
 show (w.heap.push o)[w.heap.size]? =_;simp
theorem zrw {wr:Wr}:∀ {L:Loc} {g:Nat},g ∉ wr.map (·.1)→L.upd wr g=L g:=by
 induction wr with
 | nil=>intro L g _; rfl
 | cons p wr ih=>
  intro L g h;simp at h;simp only [Loc.upd]
  rw [ih (by simpa using h.2),Loc.set_ne _ _ h.1]
theorem zxd (hm:Mem c N w0 O0 L w) {t:Nat} (ht0:t < 100000) {z:HObj} {us:List V} (hz:z.cellsV=some us) {x:Array Value} {T:TypeId} (hx:zgO c L w N us x):
  Did c N w0 O0 L w { v:=.ptr t (L.new t) 0,wr:=[(t,(L.new t,z))] } (.pointer (some ⟨w.heap.size,0,none⟩)) (w.alloc (.cells x T)):=by
 have ht:(L t).1 < L.new t:=by simp [Loc.new]
 have hg:=Grow.alloc hm (.cells x T) t (L.new t) z ht0 ht;refine ⟨c.at t (some w.heap.size),Mem.alloc hm (.cells x T) t (L.new t) z ht0 ht ?_,hg,?_⟩
 ·exact (zgt.cellsV hz).2 ⟨w.heap.size,x,T,(0,0),rfl,zz6 w _,Unfrozen.new w x T,hx.1,fun i d u hd hu=>⟨((hx.2 i d u hd hu).1).grow hg,(hx.2 i d u hd hu).2⟩⟩
 ·exact .ptr _ _ _ _ (by simp [Loc.upd,Loc.set_same]) fun _=>⟨w.heap.size,by simp [Ctx.at],rfl⟩
theorem zdD.cellsV {ds:List D} {x:Array Value} (h:zdD w (own c L) N c.γ ds x):zgO c L w N (ds.map .d) x:=
 ⟨by simpa using h.1,fun i v u hv hu=>by
  rw [List.getElem?_map] at hv
  cases hd:ds[i]? with
  | none=>rw [hd] at hv; cases hv
  | some d=>rw [hd] at hv; simp at hv; subst hv; exact ⟨.d _ _ (h.2 i d u hd hu).1,(h.2 i d u hd hu).2⟩⟩
theorem zvo (hm:Mem c N w0 O0 L w) {t:Nat} (ht0:t < 100000) {a:Bool} {ds:List D} {x:Array Value} {T:TypeId} (hx:zdD w (own c L) N c.γ ds x):
  Did c N w0 O0 L w { v:=.ptr t (L.new t) 0,wr:=[(t,(L.new t,.box a ds))] } (.pointer (some ⟨w.heap.size,0,none⟩)) (w.alloc (.cells x T)):=
 zxd hm ht0 rfl hx.cellsV
theorem zz7 (hm:Mem c N w0 O0 L w) {t:Nat} (ht0:t < 100000) {a:Bool} {ds:List D} {ks:List Nat} {vs:List V} {x:Array Value} {T:TypeId} (hx:zgO c L w N (ovs ks vs (ds.map .d)) x):
  Did c N w0 O0 L w { v:=.ptr t (L.new t) 0,wr:=[(t,(L.new t,.vbox a ds ks vs))] } (.pointer (some ⟨w.heap.size,0,none⟩)) (w.alloc (.cells x T)):=
 zxd hm ht0 rfl hx
theorem zGw (hm:Mem c N w0 O0 L w) {t:Nat} (ht0:t < 100000) {k:MK}:
  Did c N w0 O0 L w { v:=.map t (L.new t),wr:=[(t,(L.new t,.map k []))] } (.map (some w.heap.size)) (w.alloc (.map #[] 0)):=by
 have ht:(L t).1 < L.new t:=by simp [Loc.new]
 have hg:=Grow.alloc hm (.map #[] 0) t (L.new t) (.map k []) ht0 ht;refine ⟨c.at t (some w.heap.size),Mem.alloc hm (.map #[] 0) t (L.new t) (.map k []) ht0 ht ?_,hg,?_⟩
 ·exact ⟨w.heap.size,#[],0,rfl,zz6 w _,rfl,by simp⟩
 ·exact .map _ _ _ (by simp [Loc.upd,Loc.set_same]) fun _=>⟨w.heap.size,by simp [Ctx.at],rfl⟩
theorem Mem.mapAt (hm:Mem c N w0 O0 L w) {k n i o:Nat} {kk:MK} {es:List (Int×D)} (hr:ziE L k n i o=some (kk,es)):
  ∃ (wr:Bool) (T:Tb) (cs:List D) (b:Nat) (me:Array MapEntry) (ck:Nat),za6 L k=some (wr,T)∧(L (tb k)).1=n∧T[i]? =some cs∧cs[o]? =some (.mp .own kk es)∧c.ρ k i o=some b∧w.heap[b]? =some (.map me ck)∧me.size=es.length∧
   ∀ (i:Nat) (e:MapEntry) (p:Int×D),me[i]? =some e→es[i]? =some p→zmR kk p.1 e.key∧p.2.flatEl=true∧Rep w (fun _=>False) 0 c.γ p.2 e.val:=by
 obtain ⟨wr,T,t1,t2,t3,t4⟩:=zg9 hr;obtain ⟨cs,c1,c2⟩:=ziJ t4;obtain ⟨b',x,ty,fz,q1,q2,q3,q4,q5⟩:=hm.tab.obj k wr T i cs t3 c1;obtain ⟨y,hy⟩:=zd4 q4 c2;have hc:=(q5 o _ y c2 hy).2;generalize c.ρ k i o=β at hc ⊢
 cases hc with
 | flat _ _ h=>simp [D.flat] at h
 | mp kk' es' b2 m2 k2 g1 g2 g3 g4=>exact ⟨wr,T,cs,b2,m2,k2,t3,t2,c1,c2,g1,g2,g3,g4⟩
theorem zEv (hm:Mem c N w0 O0 L w) (hs:Sees Lr L) {v:V} {u:Value} {kk:MK} {es:List (Int×D)} (he:esOf Lr v=some (kk,es)) (hv:Val c L w N v u):
  ∃ b me ck,u=.map (some b)∧w.heap[b]? =some (.map me ck)∧me.size=es.length∧∀ (i:Nat) (e:MapEntry) (p:Int×D),me[i]? =some e→es[i]? =some p→zmR kk p.1 e.key∧Rep w (own c L) N c.γ p.2 e.val:=by
 have he:=hs.es he
 cases v with
 | d y=>
  cases y with
  | mp t k' es'=>
   simp [esOf] at he;obtain ⟨rfl,rfl⟩:=he;have hr:=hv.dat
   cases hr with
   | mp _ _ _ b m ck g1 g2 g3 g4 g5 g6 g7=>exact ⟨b,m,ck,rfl,g4,g5,fun i e p a b=>⟨g6 i e p a b,g7 i e p a b⟩⟩
  | _=>cases he
 | map g n=>
  simp only [esOf] at he;cases hx:L.get g n<;>rw [hx] at he<;>simp at he;obtain ⟨rfl,rfl⟩:=he
  obtain ⟨b,m,ck,h1,h2,h3,h4⟩:=hm.get hx (by simp)
  cases hv with
  | map _ _ _ k1 k2=>
   obtain ⟨b',e1,rfl⟩:=k2 (by rw [hx]; simp)
   rw [h1] at e1; cases e1
   exact ⟨b,m,ck,rfl,h2,h3,h4⟩
 | vmap k n i o=>
  simp only [esOf] at he;obtain ⟨wr,T,cs,b,me,ck,t1,t2,t3,t4,t5,t6,t7,t8⟩:=hm.mapAt he
  cases hv with
  | vmap _ _ _ _ _ k1 k2=>
   obtain ⟨b',e1,rfl⟩:=k2 _ he;rw [t5] at e1; cases e1
   exact ⟨b,me,ck,rfl,t6,t7,fun i e p a b=>⟨(t8 i e p a b).1,(t8 i e p a b).2.2.flEl (t8 i e p a b).2.1 fun _ _ _ h=>h⟩⟩
 | _=>cases he
theorem zA3 {P:Program} (hm:Mem c N w0 O0 L w) (hs:Sees Lr L) {t:TypeId} {m k v:V} {mu ku:Value} {ok:Bool} (ha:zu5 P Lr t m k ok=some v) (hv:Val c L w N m mu) (hk:Val c L w N k ku):
  ∃ u,(Instr.lookup t mu ku ok).run P w=.ok u w∧Val c L w N v u:=by
 unfold zu5 at ha;split at ha
 rotate_left
 ·cases ha
 rename_i kk et mk es hty hes;split at ha
 rotate_left
 ·cases ha
 rename_i z n hz hko;split at ha
 rotate_left
 ·cases ha
 rename_i hc;subst hc;have hkey:=zvn hko hk;obtain ⟨b,me,ck,rfl,h2,h3,h4⟩:=zEv hm hs hes hv;obtain ⟨kt,t1,t2⟩:=zz4 hty;obtain ⟨i,zv,z1,z2,z3⟩:=zo8 hz
 have hzero:∀ w,(zeroValue et).run P w=.ok zv w:=fun w=>by simp [zeroValue,typeInfo,z1,z2]
 have hget:(getObj b).run P w=.ok (.map me ck) w:=by simp [getObj,Sem.run,h2]
 have hf:=zz5 t2 hkey w me.toList es (by simpa using h3) (fun i e p a b=>(h4 i e p (by simpa using a) b).1)
 rcases hf with ⟨j,e,x,f1,f2,f3,f4,f5⟩ | ⟨f1,f2,f3⟩
 ·rw [f4] at ha;injection ha with ha; subst ha
  have hr:=(h4 j e _ (by simpa using f2) f3).2
  have hrun:(Instr.lookup t (.map (some b)) ku ok).run P w=.ok (if ok then .tuple #[e.val,.bool true] else e.val) w:=by
   simp [Instr.lookup,zbt t1,hget,zrv t2 hkey,f1]
  refine ⟨_,hrun,?_⟩
  cases ok with
  | true=>
   refine .d _ _ (.tup _ _ rfl fun i d v hd hv=>?_)
   match i with
   | 0=>simp at hd hv; subst hd; subst hv; exact hr
   | 1=>simp at hd hv; subst hd; subst hv; exact .bool _
   | i+2=>simp at hd
  | false=>exact .d _ _ hr
 ·rw [f2] at ha;injection ha with ha; subst ha;have hr:=(zde z3).2.2 w (own c L) N c.γ
  have hrun:(Instr.lookup t (.map (some b)) ku ok).run P w=.ok (if ok then .tuple #[zv,.bool false] else zv) w:=by
   simp [Instr.lookup,zbt t1,hget,zrv t2 hkey,f1,hzero]
  refine ⟨_,hrun,?_⟩
  cases ok with
  | true=>
   refine .d _ _ (.tup _ _ rfl fun i d v hd hv=>?_)
   match i with
   | 0=>simp at hd hv; subst hd; subst hv; exact hr
   | 1=>simp at hd hv; subst hd; subst hv; exact .bool _
   | i+2=>simp at hd
  | false=>exact .d _ _ hr
theorem zCh {P:Program} {t kt et:TypeId} {mk:MK} {n:Int} {ku vu:Value} {es:List (Int×D)} {me:Array MapEntry} {ck b:Nat} {R:D→Value→Prop} (t1:P.underlying t=some (.map kt et)) (t2:zwQ P kt=some mk) (hkey:zmR mk n ku)
  (h2:w.heap[b]? =some (.map me ck)) (h3:me.size=es.length) (h4:∀ (i:Nat) (e:MapEntry) (p:Int×D),me[i]? =some e→es[i]? =some p→zmR mk p.1 e.key∧R p.2 e.val) {x:D} (hx:R x vu):
  ∃ m' k',(Instr.mapUpdate t (.map (some b)) ku vu).run P w=.ok () { w with heap:=w.heap.setIfInBounds b (.map m' k') }∧m'.size=(setD n x es).length∧
   ∀ (i:Nat) (e:MapEntry) (p:Int×D),m'[i]? =some e→(setD n x es)[i]? =some p→zmR mk p.1 e.key∧R p.2 e.val:=by
 have hget:(getObj b).run P w=.ok (.map me ck) w:=by simp [getObj,Sem.run,h2]
 have hset:∀ (m':Array MapEntry) (k':Nat),(setObj b (.map m' k')).run P w=.ok () { w with heap:=w.heap.setIfInBounds b (.map m' k') }:=fun m' k'=>by simp [setObj,Sem.run,h2]
 have hf:=zz5 t2 hkey w me.toList es (by simpa using h3) (fun i e p a b=>(h4 i e p (by simpa using a) b).1)
 have hchk:=zrv t2 hkey false w;rcases hf with ⟨j,e,x',f1,f2,f3,f4,f5⟩ | ⟨f1,f2,f3⟩
 ·have he:me[j]? =some e:=by simpa using f2
  have hsame:Instr.sameBits 10000 e.key ku=true:=zCg hkey (h4 j e _ he f3).1
  refine ⟨me.modify j fun e=>{ e with key:=ku,val:=vu },ck,?_,by rw [f5]; simpa using h3,?_⟩
  ·simp [Instr.mapUpdate,zbt t1,hget,hchk,f1,Instr.keyThatStays,he,hsame,hset]
  ·intro i e' p he' hp;rw [f5,List.getElem?_set] at hp;rw [Array.getElem?_modify] at he'
   by_cases hij:j=i
   ·subst hij;have hlt:j < es.length:=za3 f3;simp [hlt] at hp; subst hp;rw [if_pos rfl,he] at he';simp at he'; subst he';exact ⟨hkey,hx⟩
   ·rw [if_neg hij] at hp he';exact h4 i e' p he' hp
 ·refine ⟨me.push { key:=ku,val:=vu,born:=ck },ck+1,?_,by rw [f3]; simp [h3],?_⟩
  ·simp [Instr.mapUpdate,zbt t1,hget,hchk,f1,hset]
  ·intro i e' p he' hp;rw [f3] at hp;rw [Array.getElem?_push] at he'
   by_cases hi:i=me.size
   ·subst hi;rw [if_pos rfl] at he'
    rw [List.getElem?_append_right (by omega),h3,Nat.sub_self] at hp
    simp at he' hp; subst he'; subst hp;exact ⟨hkey,hx⟩
   ·rw [if_neg hi] at he'
    have hlt:i < es.length:=by
     rcases Nat.lt_or_ge i me.size with h | h
     ·omega
     ·rw [Array.getElem?_eq_none h] at he'; cases he'
    rw [List.getElem?_append_left hlt] at hp;exact h4 i e' p he' hp
theorem znY {P:Program} (hm:Mem c N w0 O0 L w) (hs:Sees Lr L) {t:TypeId} {m k v:V} {mu ku vu:Value} {o:Out} (ha:zf7 P Lr t m k v=some o) (hv:Val c L w N m mu) (hk:Val c L w N k ku) (hx:Val c L w N v vu):
  ∃ w',(Instr.mapUpdate t mu ku vu).run P w=.ok () w'∧Did c N w0 O0 L w o undef w':=by
 unfold zf7 at ha;split at ha
 ·rename_i kk et g l hty;split at ha
  rotate_left
  ·cases ha
  rename_i mk es x wr n hy htd hko;split at ha
  rotate_left
  ·cases ha
  rename_i hc;obtain ⟨rfl,hgi⟩:=hc;injection ha with ha; subst ha;have hkey:=zvn hko hk
  have hL:=hs g l (by rw [hy]; simp)
  rw [hy] at hL;obtain ⟨m1,m2,m3⟩:=zB7 hm hs htd hx;have hLg:(L.upd wr) g=L g:=zrw hgi
  have hL2:(L.upd wr).get g l=.map mk es:=by unfold Loc.get; rw [hLg]; exact hL
  obtain ⟨e1,e2⟩:=zbM hL2 (by simp)
  obtain ⟨b,me,ck,h1,h2,h3,h4⟩:=m1.get hL2 (by simp)
  obtain ⟨kt,t1,t2⟩:=zz4 hty
  cases hv with
  | map _ _ _ k1 k2=>
  obtain ⟨b',e3,rfl⟩:=k2 (by rw [hL]; simp)
  rw [h1] at e3; cases e3;have hb:=zbd h2;obtain ⟨m',k',hrun,hsz,hes⟩:=zCh t1 t2 hkey h2 h3 h4 m3;refine ⟨_,hrun,?_⟩
  have hw:∀ k,k≠b→(({ w with heap:=w.heap.setIfInBounds b (.map m' k') }:World)).heap[k]? =w.heap[k]? :=fun k hk=>by simp [Array.getElem?_setIfInBounds_ne (Ne.symm hk)]
  have hbb:(({ w with heap:=w.heap.setIfInBounds b (.map m' k') }:World)).heap[b]? =some (.map m' k'):=by simp [hb]
  have hz:∀ y T' fz',w.heap[b]? =some (.cells y T' fz')→∃ y' fz'',(({ w with heap:=w.heap.setIfInBounds b (.map m' k') }:World)).heap[b]? =some (.cells y' T' fz'')∧y'.size=y.size:=by
   intro y T' fz' hy; rw [h2] at hy; cases hy
  have hg:=Grow.write m1 (x:=.map mk (setD n x es)) h1 (by rw [e2]; rfl) (by rw [e2]; rfl) (by simp) hw hz
  have hmm:=Mem.write m1 (x:=.map mk (setD n x es)) h1 (by rw [e2]; simp) (by rw [e2]; rfl) (by rw [e2]; rfl) (by simp) hw hz rfl rfl rfl
   ⟨b,m',k',rfl,hbb,hsz,fun i e p he hp=>⟨(hes i e p he hp).1,((hes i e p he hp).2).grow hg⟩⟩
  rw [e1] at hg hmm;refine ⟨c,?_,?_,zhh⟩
  ·rw [Loc.upd_append]; exact hmm
  ·rw [Loc.upd_append]; exact m2.trans hg
 ·rename_i kk et q l i o hty;split at ha
  rotate_left
  ·cases ha
  rename_i x T mk es n hT hmo hko;split at ha
  rotate_left
  ·cases ha
  rename_i hc;obtain ⟨rfl,hfl⟩:=hc;injection ha with ha; subst ha;have hkey:=zvn hko hk;have hT':=(hs.tab hT).1;have hmo':=hs.mapRow hmo;obtain ⟨wr,T0,cs,b,me,ck,q1,q2,q3,q4,q5,h2,h3,h4⟩:=hm.mapAt hmo';rw [hT'] at q1; cases q1;obtain ⟨kt,t1,t2⟩:=zz4 hty
  cases hv with
  | vmap _ _ _ _ _ k1 k2=>
  obtain ⟨b',e3,rfl⟩:=k2 _ hmo';rw [q5] at e3; cases e3;have hb:=zbd h2
  obtain ⟨m',k',hrun,hsz,hes⟩:=zCh (R:=fun d u=>d.flatEl=true∧Rep w (fun _=>False) 0 c.γ d u) t1 t2 hkey h2 h3 h4 (x:=x) ⟨hfl,hx.dat.flEl hfl fun _ _ _ h=>h⟩
  refine ⟨_,hrun,?_⟩
  have hw:∀ k,k≠b→(({ w with heap:=w.heap.setIfInBounds b (.map m' k') }:World)).heap[k]? =w.heap[k]? :=fun k hk=>by simp [Array.getElem?_setIfInBounds_ne (Ne.symm hk)]
  have hbb:(({ w with heap:=w.heap.setIfInBounds b (.map m' k') }:World)).heap[b]? =some (.map m' k'):=by simp [hb]
  have hth:zcq L q i (some o):=⟨true,T,_,hT',by unfold zdc; rw [q3]; exact q4,rfl⟩
  have hO:c.O b:=hm.tab.wr q T i (some o) b hT' hth q5;have hil:=za3 q3;have hol:=za3 q4
  have hset:setT T i o (.mp .own mk (setD n x es))=T.set i (cs.set o (.mp .own mk (setD n x es))):=by unfold setT; rw [q3]
  have htab:TabRel (L.set (tb q) (l,.tbl true (T.set i (cs.set o (.mp .own mk (setD n x es)))))) c (fun b=>b < N∧¬ O0 b) { w with heap:=w.heap.setIfInBounds b (.map m' k') }:=by
   refine hm.tab.setRow hT' q3 q4 rfl rfl q5 hw fun u hu=>?_
   cases hu with
   | flat _ _ h=>simp [D.flat] at h
   | mp kk' es' b2 m2 k2 g1 g2 g3 g4=>
    cases g1
    exact .mp _ _ b m' k' rfl hbb hsz fun i e p he hp=>⟨(hes i e p he hp).1,(hes i e p he hp).2.1,(hes i e p he hp).2.2.flEl (hes i e p he hp).2.1 fun _ _ _ h=>h⟩
  have hon:TbOn T (T.set i (cs.set o (.mp .own mk (setD n x es)))):=fun i' o'=>by
   rw [zhj hil]
   by_cases ei:i'=i
   ·subst ei;rw [if_pos rfl,List.getElem?_set]
    have hcT:zdc T i' o'=cs[o']? :=by unfold zdc; rw [q3]; rfl
    rw [hcT]
    by_cases eo:o=o'
    ·subst eo;rw [if_pos rfl,if_pos hol]
     refine ⟨fun l h=>(by cases h),fun k es' h=>⟨es,?_⟩⟩
     injection h with h; injection h with h1 h2; subst h2; exact q4
    ·rw [if_neg eo]
     exact ⟨fun l h=>⟨l,h,rfl⟩,fun k es h=>⟨es,h⟩⟩
   ·rw [if_neg ei]
    exact ⟨fun l h=>⟨l,h,rfl⟩,fun k es h=>⟨es,h⟩⟩
  obtain ⟨m1,m2⟩:=Mem.tab_upd hm hT' (kl:=[]) (by simp) (c':=c) rfl rfl (fun _ h=>h) (fun _ h=>.inl h) hO (by simp) hw (by
    intro y T' fz' hy; rw [h2] at hy; cases hy) rfl rfl rfl (ver:=l) (by omega) (fun _=>⟨hon,fun _ _ _=>rfl⟩) (fun _ _ _ _=>rfl) htab
  rw [hset];exact ⟨c,m1,m2,zhh⟩
 ·cases ha
end
end Wf

namespace Wf
open Go Go.RowKit
structure Kept (w:World) (O:Nat→Prop) (w':World):Prop where
 os:w'.os=w.os
 tape:w'.tape=w.tape
 output:w'.output=w.output
 size:w.heap.size≤w'.heap.size
 block:∀ b,b < w.heap.size→¬ O b→w'.heap[b]? =w.heap[b]?
 cells:∀ (b:Nat) (x:Array Value) (T:TypeId) (fz:Nat×Nat),w.heap[b]? =some (.cells x T fz)→∃ (x':Array Value) (fz':Nat×Nat),w'.heap[b]? =some (.cells x' T fz')∧x'.size=x.size
def zma (w:World) (A:Nat→Prop) (N:Nat) (γ:Nat→Nat→Option Nat) (β:Option Nat) (sz:Nat) (els:List D):Prop:=
 match β with
 | none=>els=[]
 | some b=>∃ (x:Array Value) (T:TypeId) (fz:Nat×Nat),w.heap[b]? =some (.cells x T fz)∧Unfrozen w b x.size∧els.length*sz≤x.size∧zEo w A N γ b sz els
def zgP (w:World) (A:Nat→Prop) (N:Nat) (γ:Nat→Nat→Option Nat) (β:Option Nat) (sz:Nat) (d:D) (u:Value):Prop:=
 match d with
 | .sl .own els=>SlAt w β sz 0 els.length u∧zma w A N γ β sz els
 | d=>β=none∧Rep w A N γ d u
def zo9 (w:World) (A:Nat→Prop) (N:Nat) (γ:Nat→Nat→Option Nat) (szs:List Nat) (r:D) (v:Value):Prop:=
 ∃ ow:Nat→Option Nat,(∀ i j b,ow i=some b→ow j=some b→i=j)∧(∀ i b,ow i=some b→b < w.heap.size∧¬ A b)∧
  match r with
  | .tup ds=>∃ vs:Array Value,v=.tuple vs∧vs.size=ds.length∧szs.length=ds.length∧
    ∀ (i:Nat) (d:D) (u:Value) (sz:Nat),ds[i]? =some d→vs[i]? =some u→szs[i]? =some sz→zgP w (fun b=>A b∨∃ i,ow i=some b) N γ (ow i) sz d u
  | d=>∃ sz,szs=[sz]∧zgP w (fun b=>A b∨∃ i,ow i=some b) N γ (ow 0) sz d v
def zbq:List (Nat×Bool)→List Tb→Loc
 | (k,w)::ks,T::Ts=>(zbq ks Ts).set (tb k) (0,.tbl w T)
 | _,_=>fun _=>(0,.dead)
def zdK:List (Nat×Bool)→List Tb→List Tb→List Tb
 | (_,true)::ks,_::Ts,T'::Ts'=>T'::zdK ks Ts Ts'
 | (_,true)::ks,T::Ts,[]=>T::zdK ks Ts []
 | (_,false)::ks,T::Ts,Ts'=>T::zdK ks Ts Ts'
 | _,_,_=>[]
def zjv (γ:Nat→Nat→Option Nat) (ρ:Nat→Nat→Nat→Option Nat) (O:Nat→Prop):Ctx:={ ι:=fun _=>none,γ,ρ,O }
def Ows (c:Ctx) (L:Loc) (W:Nat→Prop) (b:Nat):Prop:=∃ k i q,W k∧zcq L k i q∧c.tab k i q=some b
def pmAt (pms:List (PM×Nat)) (i:Nat):PM×Nat:=pms.getD i (.lent,0)
def OwnG (pms:List (PM×Nat)) (gv:Nat→Option Nat) (b:Nat):Prop:=∃ i,(pmAt pms i).1=.own∧gv i=some b
def Gv (gv:Nat→Option Nat) (b:Nat):Prop:=∃ i,gv i=some b
def zcT (pms:List (PM×Nat)) (i:Nat):Nat:=((pms.take i).filter fun p=>decide (p.1=.mut)).length
def zt0 (w:World) (A:Nat→Prop) (γ:Nat→Nat→Option Nat) (pms:List (PM×Nat)) (gv:Nat→Option Nat) (ds:List D) (us:List Value):Prop:=
 us.length=ds.length∧∀ (i:Nat) (d:D) (u:Value),ds[i]? =some d→us[i]? =some u→
  ((pmAt pms i).1=.lent→gv i=none∧Rep w A 0 γ d u)∧
  ((pmAt pms i).1≠.lent→∃ els,d=.sl .own els∧els.all D.flatEl=true∧SlAt w (gv i) (pmAt pms i).2 0 els.length u∧zma w (fun _=>False) 0 γ (gv i) (pmAt pms i).2 els)
structure Turned (w w':World) (γ γ':Nat→Nat→Option Nat) (ρ ρ':Nat→Nat→Nat→Option Nat) (O O':Nat→Prop) (pms:List (PM×Nat)) (gv:Nat→Option Nat) (ks:List (Nat×Bool)) (ds:List D) (Ts Ts':List Tb)
  (outs:List (List D)) (szs:List Nat) (r:D) (v:Value):Prop where
 more:∀ k i b,γ k i=some b→γ' k i=some b
 same:∀ k,k ∉ ksW ks→γ' k=γ k∧ρ' k=ρ k
 tab:TabRel (zbq ks Ts') (zjv γ' ρ' O') (fun _=>True) w'
 osub:∀ b,O' b→b < w'.heap.size∧(O b∨OwnG pms gv b∨w.heap.size≤b)
 kept:Kept w (fun b=>O b∨Gv gv b) w'
 outs:∀ i sz els els',pmAt pms i=(.mut,sz)→ds[i]? =some (.sl .own els)→outs[zcT pms i]? =some els'→els'.length=els.length→els'.all D.flatEl=true∧zma w' (fun _=>False) 0 γ' (gv i) sz els'
 res:zo9 w' (fun b=>(b < w.heap.size∧¬ OwnG pms gv b)∨O' b) w.heap.size γ' szs r v
def Sound (P:Program) (f:FuncId):Spec→Prop
  | .pure szs F => (∃ fn, P.funcs[f]? = some fn ∧ (fn.name == "runtime.NumGoroutine") = false ∧ fn.body.isNone = false) ∧
      ∀ ds r,F ds=some r→∀ (w:World) γ us,Reps w (fun _=>False) 0 γ ds us→
        Calls P f us.toArray w fun e w'=>∃ v,e=.returned v∧Kept w (fun _=>False) w'∧zo9 w' (fun b=>b < w.heap.size) w.heap.size γ szs r v
  | .st pms szs ks F => (∃ fn, P.funcs[f]? = some fn ∧ (fn.name == "runtime.NumGoroutine") = false ∧ fn.body.isNone = false) ∧
      ∀ ds Ts a,F ds Ts=some a→Ts.length=ks.length→∀ (w:World) γ ρ O gv us,
        TabRel (zbq ks Ts) (zjv γ ρ O) (fun b=>b < w.heap.size∧¬ (O b∨Gv gv b)) w→(∀ b,O b→b < w.heap.size∧Ows (zjv γ ρ O) (zbq ks Ts) (· ∈ksW ks) b)→(∀ i b,gv i=some b→b < w.heap.size∧¬ O b)→(∀ i j b,gv i=some b→gv j=some b→i=j)→(∀ i,ds.length≤i→gv i=none)→
        zt0 w (fun b=>O b∨Gv gv b) γ pms gv ds us→
        Calls P f us.toArray w fun e w'=>∃ v γ' ρ' O',e=.returned v∧Turned w w' γ γ' ρ ρ' O O' pms gv ks ds Ts (zdK ks Ts a.tbs) a.outs szs a.r v
section
variable {c:Ctx} {N:Nat} {w0:World} {O0:Nat→Prop} {L Lr:Loc} {w:World} {A:Nat→Prop} {nw:List Nat}
theorem Rep.out {A A':Nat→Prop} {N N':Nat} {γ} {d:D} {u:Value} (h:Rep w A N γ d u) (hA:∀ b,A' b→A b) (hN:N'≤N):Rep w A' N' γ d u:=
 h.mono (fun _ _ _=>rfl) (fun b _ h=>hA b h) hN (Nat.le_refl _) (fun _ _ _ h=>h)
theorem zg1:∀ {vs:List V} {v:V} {g:Nat},v∈vs→g∈v.ids→g∈V.idsL vs
 | u::vs,v,g,h,hg=>by
  simp only [V.idsL,List.mem_append];rcases List.mem_cons.1 h with rfl | h
  ·exact .inl hg
  ·exact .inr (zg1 h hg)
theorem znZ {L:Loc} {vs:List V} {g:Nat}:g∈znP L vs↔∃ k∈V.idsL vs,g=k∨∃ a ds ks us,(L k).2=.vbox a ds ks us∧g∈V.idsL us:=by
 unfold znP;rw [List.mem_flatMap];constructor
 ·rintro ⟨k,h1,h2⟩
  refine ⟨k,h1,?_⟩;rcases List.mem_cons.1 h2 with h2 | h2
  ·exact .inl h2
  ·split at h2
   ·rename_i a ds ks us e; exact .inr ⟨a,ds,ks,us,e,h2⟩
   ·cases h2
 ·rintro ⟨k,h1,h2⟩
  refine ⟨k,h1,List.mem_cons.2 ?_⟩;rcases h2 with h2 | ⟨a,ds,ks,us,e,h2⟩
  ·exact .inl h2
  ·exact .inr (by rw [e]; exact h2)
theorem zxe {L:Loc} {us vs:List V} (h:∀ g∈V.idsL us,g∈V.idsL vs) {g:Nat} (hg:g∈znP L us):g∈znP L vs:=by
 obtain ⟨k,h1,h2⟩:=znZ.1 hg;exact znZ.2 ⟨k,h k h1,h2⟩
theorem zkI {L:Loc} {vs:List V} {g:Nat} (h:g∈V.idsL vs):g∈znP L vs:=znZ.2 ⟨g,h,.inl rfl⟩
def zxf (c:Ctx) (L:Loc) (A:Nat→Prop) (S:List Nat):Prop:=∀ g∈S,∀ b,c.ι g=some b→(L g).2≠.dead→¬ A b
theorem zxf.sub {S S':List Nat} (h:zxf c L A S) (hs:∀ g∈S',g∈S):zxf c L A S':=fun g hg=>h g (hs g hg)
theorem zvp (hm:Mem c N w0 O0 L w) (hs:Sees Lr L) (hA:∀ b,A b→own c L b) {v:V} {l:List D} {u:Value} (he:zdH Lr v=some l) (hv:Val c L w N v u) (hsrc:∀ b,zGv c L v b→¬ A b):Rep w A 0 c.γ (.sl .lent l) u:=by
 obtain ⟨a,cap,rfl,hc,h⟩:=ztW hm hs he hv;rcases h with rfl | ⟨b,o,sz,vs,rfl,hb,hO,h⟩
 ·exact .slE _ _ _ (by simp) (by simp) (by simp)
 ·by_cases h0:l=[]
  ·subst h0; exact .slE _ _ _ (by simp) (by simp) (by simp)
  ·exact .sl _ _ b o sz cap vs h0 (by simp) hc (by simp) (hsrc b hO) (by simp) hb (fun i d hd=>((h i d hd).1).out hA (Nat.zero_le _))
    (fun i hi=>(h i _ (List.getElem?_eq_getElem hi)).2)
theorem zvq (hm:Mem c N w0 O0 L w) (hs:Sees Lr L) (hA:∀ b,A b→own c L b) (htb:∀ k i q b,k ∉ nw→zcq L k i q→c.tab k i q=some b→¬ A b)
  {v:V} {d:D} {u:Value} (hap:zxf c L A v.ids) (he:zjq nw Lr v=some d) (hv:Val c L w N v u):Rep w A 0 c.γ d u:=by
 have hsrc:∀ g n off len,(v=.ref g n off len∨v=.bref g n off len)→∀ b,zGv c L v b→¬ A b:=by
  rintro g n off len hv' b (⟨⟨d,rfl⟩,_⟩ | ⟨g',h1,h2,h3⟩ | ⟨k,n',i,o,lo,len',rfl,_⟩)
  ·rcases hv' with h | h<;>cases h
  ·exact hap g' h1 b h2 h3
  ·rcases hv' with h | h<;>cases h
 have hmap:∀ b m ck (kk:MK) (es:List (Int×D)),¬ A b→u=.map (some b)→w.heap[b]? =some (.map m ck)→m.size=es.length→(∀ (i:Nat) (e:MapEntry) (p:Int×D),m[i]? =some e→es[i]? =some p→zmR kk p.1 e.key∧Rep w (own c L) N c.γ p.2 e.val)→
   Rep w A 0 c.γ (.mp .lent kk es) u:=by
  rintro b m ck kk es h0 rfl h2 h3 h4
  exact .mp _ _ _ b m ck h0 (by simp) (zbd h2) h2 h3 (fun i e p a b=>(h4 i e p a b).1) (fun i e p a b=>((h4 i e p a b).2).out hA (Nat.zero_le _))
 cases v with
 | d x=>simp [zjq] at he; subst he; exact hv.dat.out hA (Nat.zero_le _)
 | p k x=>
  simp [zjq] at he; subst he
  cases hv with
  | p _ _ _ hr=>exact hr.out hA (Nat.zero_le _)
 | ref g n off len=>
  simp only [zjq] at he
  cases hl:zdH Lr (.ref g n off len) with
  | none=>rw [hl] at he; cases he
  | some l=>rw [hl] at he; simp at he; subst he; exact zvp hm hs hA hl hv (hsrc g n off len (.inl rfl))
 | bref g n off len=>
  simp only [zjq] at he
  cases hl:zdH Lr (.bref g n off len) with
  | none=>rw [hl] at he; cases he
  | some l=>rw [hl] at he; simp at he; subst he; exact zvp hm hs hA hl hv (hsrc g n off len (.inr rfl))
 | vref k n i o lo len=>
  simp only [zjq] at he;split at he
  ·cases he
  rename_i hk
  cases hl:zdH Lr (.vref k n i o lo len) with
  | none=>rw [hl] at he; cases he
  | some l=>
   rw [hl] at he; simp at he; subst he;refine zvp hm hs hA hl hv ?_
   rintro b (⟨⟨d,h⟩,_⟩ | ⟨g',h1,h2,h3⟩ | ⟨k',n',i',o',lo',len',e,h1,h2⟩)
   ·cases h
   ·simp [V.ids] at h1; subst h1; rw [hm.iotab] at h2; cases h2
   ·cases e; exact htb k i (some o) b hk h1 h2
 | map g n=>
  simp only [zjq] at he
  cases hl:esOf Lr (.map g n) with
  | none=>rw [hl] at he; cases he
  | some p=>
   obtain ⟨kk,es⟩:=p;rw [hl] at he; simp at he; subst he;obtain ⟨b,m,ck,h1,h2,h3,h4⟩:=zEv hm hs hl hv;have hl':=hs.es hl;simp only [esOf] at hl';refine hmap b m ck kk es ?_ h1 h2 h3 h4;cases hx:L.get g n<;>rw [hx] at hl'<;>simp at hl'
   obtain ⟨e1,e2⟩:=zbM hx (by simp)
   cases hv with
   | map _ _ _ k1 k2=>
    obtain ⟨b',q1,q2⟩:=k2 (by rw [hx]; simp)
    rw [h1] at q2; cases q2
    exact hap g (by simp [V.ids]) b q1 (by rw [e2]; simp)
 | vmap k n i o=>
  simp only [zjq] at he;split at he
  ·cases he
  rename_i hk
  cases hl:esOf Lr (.vmap k n i o) with
  | none=>rw [hl] at he; cases he
  | some p=>
   obtain ⟨kk,es⟩:=p;rw [hl] at he; simp at he; subst he;obtain ⟨b,m,ck,h1,h2,h3,h4⟩:=zEv hm hs hl hv;refine hmap b m ck kk es ?_ h1 h2 h3 h4;have hl':=hs.es hl;simp only [esOf] at hl';obtain ⟨wr,T,q1,q2,q3,q4⟩:=zg9 hl'
   cases hv with
   | vmap _ _ _ _ _ k1 k2=>
    obtain ⟨b',q5,q6⟩:=k2 _ hl';rw [h1] at q6; cases q6
    exact htb k i (some o) b hk ⟨wr,T,_,q3,q4,rfl⟩ q5
 | _=>cases he
theorem zxg (hm:Mem c N w0 O0 L w) (hs:Sees Lr L) (hA:∀ b,A b→own c L b) (htb:∀ k i q b,k ∉ nw→zcq L k i q→c.tab k i q=some b→¬ A b):
  ∀ {vs:List V} {ds:List D} {us:List Value},zxf c L A (V.idsL vs)→znM nw Lr vs=some ds→Vals c L w N vs us→Reps w A 0 c.γ ds us
 | [],ds,us,_,he,hv=>by
  simp [znM] at he; subst he;have:us=[]:=List.eq_nil_of_length_eq_zero hv.1
  subst this; exact Reps.nil
 | v::vs,ds,us,hap,he,hv=>by
  obtain ⟨u,us',rfl,h1,h2⟩:=hv.cons_inv;simp only [znM] at he
  cases hx:zjq nw Lr v with
  | none=>rw [hx] at he; cases he
  | some x=>
   rw [hx] at he;simp only [Option.bind_some] at he
   cases hy:znM nw Lr vs with
   | none=>rw [hy] at he; cases he
   | some xs=>
    rw [hy] at he;injection he with he; subst he
    exact Reps.cons (zvq hm hs hA htb (hap.sub fun g hg=>by simp [V.idsL,hg]) hx h1) (zxg hm hs hA htb (hap.sub fun g hg=>by simp [V.idsL,hg]) hy h2)
theorem zvr (hm:Mem c N w0 O0 L w) (hs:Sees Lr L) (hA:∀ b,A b→own c L b) (htb:∀ k i q b,k ∉ nw→zcq L k i q→c.tab k i q=some b→¬ A b)
  {v:V} {d:D} {u:Value} (hap:zxf c L A (znP Lr [v])) (he:zqC nw Lr v=some d) (hv:Val c L w N v u):Rep w A 0 c.γ d u:=by
 have hids:∀ g∈v.ids,g∈znP Lr [v]:=fun g hg=>zkI (zg1 (by simp) hg)
 by_cases hp:∃ g n off,v=.ptr g n off
 rotate_left
 ·have:zqC nw Lr v=zjq nw Lr v:=by
   cases v<;>first | rfl | exact absurd ⟨_,_,_,rfl⟩ hp
  rw [this] at he;exact zvq hm hs hA htb (hap.sub hids) he hv
 ·obtain ⟨g,n,off,rfl⟩:=hp;simp only [zqC] at he
  cases hv with
  | ptr _ _ _ _ k1 k2=>
  have blk:∀ y,Lr.get g n=y→y≠.dead→∃ b,c.ι g=some b∧u=.pointer (some ⟨b,off,none⟩)∧L.get g n=y∧¬ A b∧b < w.heap.size:=by
   intro y hy hd
   have hL:=hs g n (by rw [hy]; exact hd)
   rw [hy] at hL
   obtain ⟨b,e1,rfl⟩:=k2 (by rw [hL]; exact hd)
   obtain ⟨_,e2⟩:=zbM hL hd
   exact ⟨b,e1,rfl,hL,hap g (hids g (by simp [V.ids])) b e1 (by rw [e2]; exact hd),(hm.mine g b e1 (by rw [e2]; exact hd)).2.1⟩
  have whole:∀ (b:Nat) (x:Array Value) (T:TypeId) (fz:Nat×Nat) (ds:List D),¬ A b→w.heap[b]? =some (.cells x T fz)→x.size=ds.length→
    (∀ (i:Nat) (d:D) (u:Value),ds[i]? =some d→x[i]? =some u→Rep w (own c L) N c.γ d u∧u.oneCell'=true)→Rep w A 0 c.γ (.at_ (.agg ds)) (.pointer (some ⟨b,0,none⟩)):=by
   intro b x T fz ds h0 h2 h4 h5
   refine .at_ _ (.agg x) b 0 h0 (zbd h2) (fun j u hu=>?_) (.agg _ _ h4 (fun i d v hd hv=>((h5 i d v hd hv).1).out hA (Nat.zero_le _)) (fun i v hv=>?_))
   ·rw [Nat.zero_add]; exact zfy h2 (by simpa [Value.cells] using hu)
   ·have hi:i < ds.length:=by have:=zdd hv; omega
    exact (h5 i _ v (List.getElem?_eq_getElem hi) hv).2
  have single:∀ (b:Nat) (x:Array Value) (T:TypeId) (fz:Nat×Nat) (y:D),¬ A b→w.heap[b]? =some (.cells x T fz)→x.size=1→
    (∀ (u:Value),x[0]? =some u→Rep w A 0 c.γ y u∧u.oneCell'=true)→Rep w A 0 c.γ (.at_ y) (.pointer (some ⟨b,0,none⟩)):=by
   intro b x T fz y h0 h2 h4 h5
   have hx0:x[0]? =some (x[0]'(by omega)):=by simp
   obtain ⟨r1,r2⟩:=h5 _ hx0
   refine .at_ _ _ b 0 h0 (zbd h2) (fun j u hu=>?_) r1
   rw [zbm r2] at hu
   cases j with
   | zero=>simp at hu; subst hu; exact zfy h2 (by simpa using hx0)
   | succ j=>simp at hu
  split at he
  ·rename_i ds hy;injection he with he; subst he
   obtain ⟨b,e1,rfl,hL,h0,_⟩:=blk _ hy (by simp)
   obtain ⟨b',x,T,fz,h1,h2,h3,h4,h5⟩:=hm.get hL (by simp)
   rw [e1] at h1; cases h1;exact whole b x T fz ds h0 h2 h4 h5
  ·rename_i ds hy;injection he with he; subst he
   obtain ⟨b,e1,rfl,hL,h0,_⟩:=blk _ hy (by simp)
   obtain ⟨b',x,T,fz,h1,h2,h4,h5⟩:=hm.get hL (by simp)
   rw [e1] at h1; cases h1;exact whole b x T fz ds h0 h2 h4 h5
  ·rename_i y hy;injection he with he; subst he
   obtain ⟨b,e1,rfl,hL,h0,_⟩:=blk _ hy (by simp)
   obtain ⟨b',x,T,fz,h1,h2,h3,h4,h5⟩:=hm.get hL (by simp)
   rw [e1] at h1; cases h1
   exact single b x T fz y h0 h2 (by simpa using h4) fun u hu=>⟨((h5 0 y u (by simp) hu).1).out hA (Nat.zero_le _),(h5 0 y u (by simp) hu).2⟩
  ·rename_i y hy;injection he with he; subst he
   obtain ⟨b,e1,rfl,hL,h0,_⟩:=blk _ hy (by simp)
   obtain ⟨b',x,T,fz,h1,h2,h4,h5⟩:=hm.get hL (by simp)
   rw [e1] at h1; cases h1
   exact single b x T fz y h0 h2 (by simpa using h4) fun u hu=>⟨((h5 0 y u (by simp) hu).1).out hA (Nat.zero_le _),(h5 0 y u (by simp) hu).2⟩
  ·rename_i d0 q hy
   cases hl:zjq nw Lr q with
   | none=>rw [hl] at he; cases he
   | some d'=>
    rw [hl] at he;injection he with he; subst he
    obtain ⟨b,e1,rfl,hL,h0,_⟩:=blk _ hy (by simp)
    obtain ⟨b',x,T,fz,h1,h2,h3,h4,h5⟩:=hm.get hL (by simp)
    rw [e1] at h1; cases h1
    obtain ⟨_,e2⟩:=zbM (L:=Lr) hy (by simp)
    refine single b x T fz d' h0 h2 (by simpa using h4) fun u hu=>⟨zvq hm hs hA htb (hap.sub fun g' hg'=>znZ.2 ⟨g,by simp [V.idsL,V.ids],.inr ⟨_,_,_,_,e2,by simp [V.idsL,hg']⟩⟩) hl (h5 0 q u (by simp [ovs]) hu).1,(h5 0 q u (by simp [ovs]) hu).2⟩
  ·cases he
theorem zvs {α β:Type} {f:α→Option β}:∀ {l:List α} {r:List β},l.mapM f=some r→r.length=l.length∧∀ (i:Nat) (a:α) (b:β),l[i]? =some a→r[i]? =some b→f a=some b
 | [],r,h=>by simp at h; subst h; simp
 | a::l,r,h=>by
  simp only [List.mapM_cons] at h
  cases h1:f a with
  | none=>rw [h1] at h; cases h
  | some b=>
   rw [h1] at h
   cases h2:l.mapM f with
   | none=>rw [h2] at h; cases h
   | some r'=>
    rw [h2] at h;injection h with h; subst h;obtain ⟨p1,p2⟩:=zvs h2
    refine ⟨by simp [p1],fun i a' b' ha hb=>?_⟩
    cases i with
    | zero=>simp at ha hb; subst ha; subst hb; exact h1
    | succ i=>exact p2 i a' b' (by simpa using ha) (by simpa using hb)
theorem zGx (hm:Mem c N w0 O0 L w) (hs:Sees Lr L) (hA:∀ b,A b→own c L b) (htb:∀ k i q b,k ∉ nw→zcq L k i q→c.tab k i q=some b→¬ A b)
  {v:V} {d:D} {u:Value} (hap:zxf c L A (znP Lr [v])) (he:lend nw Lr v=some d) (hv:Val c L w N v u):Rep w A 0 c.γ d u:=by
 have hfall:zqC nw Lr v=some d→_:=fun he=>zvr hm hs hA htb hap he hv
 cases v with
 | clo f a b=>
  simp only [lend] at he
  cases h1:a.mapM (zqC nw Lr) with
  | none=>rw [h1] at he; cases he
  | some a'=>
   rw [h1] at he;simp only [Option.bind_some] at he
   cases h2:b.mapM (zqC nw Lr) with
   | none=>rw [h2] at he; cases he
   | some b'=>
    rw [h2] at he;injection he with he; subst he;obtain ⟨p1,p2⟩:=zvs h1;obtain ⟨q1,q2⟩:=zvs h2
    have sub:∀ x,x∈a∨x∈b→zxf c L A (znP Lr [x]):=fun x hx=>hap.sub fun g hg=>zxe (fun g' hg'=>by
     simp only [V.idsL,List.append_nil,V.ids,List.mem_append] at hg' ⊢;rcases hx with hx | hx
     ·exact .inl (zg1 hx hg')
     ·exact .inr (zg1 hx hg')) hg
    cases hv with
    | clo _ _ _ va vb k1 k2 k3 k4=>
     refine .fn _ _ _ _ _ (by omega) (by omega) (fun i d v hd hv=>?_) (fun i d v hd hv=>?_)
     ·have hi:i < a.length:=by have:=zdd hv; omega
      exact zvr hm hs hA htb (sub _ (.inl (List.getElem_mem hi))) (p2 i _ _ (List.getElem?_eq_getElem hi) hd) (k3 i _ _ (List.getElem?_eq_getElem hi) hv)
     ·have hi:i < b.length:=by have:=zdd hv; omega
      exact zvr hm hs hA htb (sub _ (.inr (List.getElem_mem hi))) (q2 i _ _ (List.getElem?_eq_getElem hi) hd) (k4 i _ _ (List.getElem?_eq_getElem hi) hv)
 | agg ds ks vs=>
  simp only [lend] at he;split at he
  rotate_left
  ·cases he
  rename_i hok
  cases h1:znM nw Lr vs with
  | none=>rw [h1] at he; cases he
  | some xs=>
   rw [h1] at he;injection he with he; subst he
   cases hv with
   | agg _ _ _ us a1 a2 a3=>
    have hr:=zxg hm hs hA htb (hap.sub fun g hg=>zkI (by simpa [V.idsL,V.ids] using hg)) h1 (zvc hok a1 a2)
    obtain ⟨w1,w2,w3⟩:=zhi hok
    have hlen:xs.length=vs.length:=by have:=hr.1; simp at this; omega
    exact zB5 hok hlen a1 a3 (fun i d u hd hu=>(a2 i (.d d) u hd hu).dat.out hA (Nat.zero_le _)) hr
 | _=>exact hfall he
end
end Wf

namespace Wf
open Go Go.RowKit
section
variable {c:Ctx} {N:Nat} {w0:World} {O0:Nat→Prop} {L Lr:Loc} {w:World}
def zg2 (c:Ctx) (γ':Nat→Nat→Option Nat) (ρ':Nat→Nat→Nat→Option Nat) (O' Ow:Nat→Prop) (ad:Nat→Option (Nat×List D×Option Nat)):Ctx:=
 { ι:=fun g=>match ad g with | some (_,_,β)=>β | none=>c.ι g,γ:=γ',ρ:=ρ',O:=fun b=>(c.O b∧¬ Ow b)∨O' b }
theorem zrx {γ' ρ' O' Ow} {ad:Nat→Option (Nat×List D×Option Nat)} {g:Nat} {p:Nat×List D×Option Nat} (h:ad g=some p):(zg2 c γ' ρ' O' Ow ad).ι g=p.2.2:=by
 show (match ad g with | some (_,_,β)=>β | none=>c.ι g)=_
 rw [h]
theorem zyK {γ' ρ' O' Ow} {ad:Nat→Option (Nat×List D×Option Nat)} {g:Nat} (h:ad g=none):(zg2 c γ' ρ' O' Ow ad).ι g=c.ι g:=by
 show (match ad g with | some (_,_,β)=>β | none=>c.ι g)=_
 rw [h]
theorem zma.flat {w':World} {A B:Nat→Prop} {N N':Nat} {γ β sz els} (h:zma w' B N' γ β sz els) (hf:els.all D.flatEl=true):zma w' A N γ β sz els:=by
 cases β with
 | none=>exact h
 | some b=>
  obtain ⟨x,T,fz,r1,r2,r3,vs,r4⟩:=h
  refine ⟨x,T,fz,r1,r2,r3,vs,fun i d hd=>⟨((r4 i d hd).1).flEl ?_ fun _ _ _ h=>h,(r4 i d hd).2⟩⟩
  rw [List.all_eq_true] at hf;exact hf d (List.mem_of_getElem? hd)
theorem zCi (hm:Mem c N w0 O0 L w) {w':World} {γ':Nat→Nat→Option Nat} {ρ':Nat→Nat→Nat→Option Nat} {O' Ow Gb Ob:Nat→Prop} {ad:Nat→Option (Nat×List D×Option Nat)} {L':Loc}
  (hγ:∀ k i b,c.γ k i=some b→γ' k i=some b) (hρ:∀ k i o,(L' (tb k)).1=(L (tb k)).1→ρ' k i o=c.ρ k i o) (hst:∀ k,(∀ T,za6 L k≠some (true,T))→γ' k=c.γ k∧ρ' k=c.ρ k)
  (hOw:∀ b,Ow b→c.O b) (hG:∀ b,Gb b→∃ g,c.ι g=some b∧g < 90000∧∃ sz els,(L g).2=.arr sz els true) (hOb:∀ b,Ob b→Gb b)
  (hObd:∀ b g,Ob b→c.ι g=some b→(L g).2≠.dead→ad g=none→(L' g).2=.dead)
  (hO:∀ b,O' b→b < w'.heap.size∧(Ow b∨Ob b∨w.heap.size≤b)) (hk:Kept w (fun b=>Ow b∨Gb b) w')
  (hL':∀ g,(∃ p,ad g=some p∧L' g=(L.new g,.arr p.1 p.2.1 true))∨(ad g=none∧((L' g=L g∧∀ b,c.ι g=some b→(L g).2≠.dead→¬ Gb b)∨L' g=((L g).1,.dead)∨
   (∃ sz els els',(L g).2=.arr sz els true∧L' g=((L g).1,.arr sz els' true)∧els'.length=els.length∧els'.all D.flatEl=true∧zma w' (fun _=>False) 0 γ' (c.ι g) sz els')∨
   ∃ k wr T T',g=tb k∧(L g).2=.tbl wr T∧L' g=(L.new g,.tbl wr T'))))
  (hblk:∀ g sz els b,ad g=some (sz,els,some b)→(w.heap.size≤b∨Ob b)∧b < w'.heap.size∧¬ O' b)
  (hinj:∀ g g' sz els sz' els' b,ad g=some (sz,els,some b)→ad g'=some (sz',els',some b)→g=g')
  (hrow:∀ g sz els β,ad g=some (sz,els,β)→zma w' (fun b=>((b < w.heap.size∧¬ Ob b)∨O' b)∨∃ g sz els,ad g=some (sz,els,some b)) N γ' β sz els) (had:∀ k,ad (tb k)=none)
  (htab:TabRel L' (zg2 c γ' ρ' O' Ow ad) (fun b=>b < N∧¬ O0 b) w'):
  Mem (zg2 c γ' ρ' O' Ow ad) N w0 O0 L' w'∧Grow c L w (zg2 c γ' ρ' O' Ow ad) L' w'∧
   ∀ b,own (zg2 c γ' ρ' O' Ow ad) L' b→((b < w.heap.size∧¬ Ob b)∨O' b)∨∃ g sz els,ad g=some (sz,els,some b):=by
 generalize hc':zg2 c γ' ρ' O' Ow ad=c' at htab ⊢
 have hιa:∀ g p,ad g=some p→c'.ι g=p.2.2:=fun g p h=>by rw [←hc']; exact zrx h
 have hιn:∀ g,ad g=none→c'.ι g=c.ι g:=fun g h=>by rw [←hc']; exact zyK h
 have hcO:∀ b,c'.O b↔(c.O b∧¬ Ow b)∨O' b:=fun b=>by rw [←hc']; exact Iff.rfl
 have hcγ:c'.γ=γ':=by rw [←hc']; rfl
 have hcρ:c'.ρ=ρ':=by rw [←hc']; rfl
 have hGO:∀ b,Gb b→¬ c.O b∧N≤b∧b < w.heap.size∧own c L b:=by
  intro b hb;obtain ⟨g,g1,g2,sz,els,g3⟩:=hG b hb
  have hd:(L g).2≠.dead:=by rw [g3]; simp
  obtain ⟨a1,a2,a3⟩:=hm.mine g b g1 hd
  exact ⟨a3,hm.mineN g b g1 hd (by rw [g3]; simp) g2,a2,.inr ⟨g,g1,by rw [g3]; rfl⟩⟩
 have hwas:∀ g b,ad g=none→c.ι g=some b→(L' g).2≠.dead→(L g).2≠.dead∧((L' g).2.live=true→(L g).2.live=true)∧((∀ sz els,(L' g).2≠.trow sz els)→∀ sz els,(L g).2≠.trow sz els):=by
  intro g b ha hb hd;rcases hL' g with ⟨p,h,_⟩ | ⟨_,h | h | ⟨sz,els,els',h1,h2,_⟩ | ⟨k,wr,T,T',rfl,h1,h2⟩⟩
  ·rw [h] at ha; cases ha
  ·rw [h.1] at hd ⊢; exact ⟨hd,fun h=>h,fun h=>h⟩
  ·rw [h] at hd; exact absurd rfl hd
  ·rw [h1]; exact ⟨by simp,fun _=>rfl,fun _=>by simp⟩
  ·rw [hm.iotab] at hb; cases hb
 have hnoOb:∀ g b,ad g=none→(L' g).2≠.dead→(L g).2≠.dead→c.ι g=some b→¬ Ob b:=fun g b ha hd hd0 hb ho=>hd (hObd b g ho hb hd0 ha)
 have hout:∀ b,own c' L' b→((b < w.heap.size∧¬ Ob b)∨O' b)∨∃ g sz els,ad g=some (sz,els,some b):=by
  rintro b (h | ⟨g,h1,h2⟩)
  ·rcases (hcO b).1 h with ⟨h,_⟩ | h
   ·exact .inl (.inl ⟨(hm.osub b h).1,fun ho=>(hGO b (hOb b ho)).1 h⟩)
   ·exact .inl (.inr h)
  ·cases ha:ad g with
   | none=>
    rw [hιn g ha] at h1
    have hd:(L' g).2≠.dead:=by intro e; rw [e] at h2; cases h2
    obtain ⟨k1,k2,_⟩:=hwas g b ha h1 hd
    exact .inl (.inl ⟨(hm.mine g b h1 k1).2.1,hnoOb g b ha hd k1 h1⟩)
   | some p=>
    obtain ⟨sz,els,β⟩:=p;rw [hιa g _ ha] at h1;simp only at h1;subst h1;exact .inr ⟨g,sz,els,ha⟩
 have hold:∀ b,b < w.heap.size→¬ Ow b→¬ Gb b→w'.heap[b]? =w.heap[b]? :=fun b h1 h2 h3=>hk.block b h1 fun h=>by
  rcases h with h | h
  ·exact h2 h
  ·exact h3 h
 have hg:Grow c L w c' L' w':=by
  refine ⟨hk.size,fun b hb hlt=>hold b hlt (fun h=>hb (.inl (hOw b h))) fun h=>hb (hGO b h).2.2.2,?_,by rw [hcγ]; exact hγ,fun k i o h1 _=>by rw [hcρ]; exact hρ k i o h1,fun k h=>⟨?_,by rw [hcγ]; exact (hst k h).1,by rw [hcρ]; exact (hst k h).2⟩,fun b x T fz hb _=>hk.cells b x T fz hb,?_,?_⟩
  ·rintro b hlt (h | ⟨g,h1,h2⟩)
   ·rcases (hcO b).1 h with ⟨h,_⟩ | h
    ·exact .inl h
    ·rcases (hO b h).2 with h' | h' | h'
     ·exact .inl (hOw b h')
     ·exact (hGO b (hOb b h')).2.2.2
     ·omega
   ·cases ha:ad g with
    | none=>
     rw [hιn g ha] at h1
     have hd:(L' g).2≠.dead:=by intro e; rw [e] at h2; cases h2
     obtain ⟨k1,k2,_⟩:=hwas g b ha h1 hd
     exact .inr ⟨g,h1,k2 h2⟩
    | some p=>
     obtain ⟨sz,els,β⟩:=p;rw [hιa g _ ha] at h1;simp only at h1;subst h1;rcases (hblk g sz els b ha).1 with h' | h'
     ·omega
     ·exact (hGO b (hOb b h')).2.2.2
  ·intro T e;rw [zed] at e;rcases hL' (tb k) with ⟨p,_,h1⟩ | ⟨_,h1 | h1 | ⟨sz,els,els',_,h1,_⟩ | ⟨k',wr,T0,T',_,h0,h1⟩⟩
   ·rw [h1] at e; cases e
   ·rw [h1.1] at e; exact h T (zed.2 e)
   ·rw [h1] at e; cases e
   ·rw [h1] at e; cases e
   ·rw [h1] at e;injection e with e1 e2;subst e1;exact h T0 (zed.2 h0)
  ·intro g;rcases hL' g with ⟨p,_,h⟩ | ⟨_,h | h | ⟨sz,els,els',h1,h,_⟩ | ⟨k,wr,T,T',rfl,h1,h⟩⟩
   ·rw [h]; simp [Loc.new]
   ·rw [h.1]; exact Nat.le_refl _
   ·rw [h]; exact Nat.le_refl _
   ·rw [h]; exact Nat.le_refl _
   ·rw [h]; simp [Loc.new]
  ·intro g e;rcases hL' g with ⟨p,_,h⟩ | ⟨ha,h | h | ⟨sz,els,els',h1,h,h3,_⟩ | ⟨k,wr,T,T',rfl,h1,h⟩⟩
   ·rw [h] at e; simp [Loc.new] at e
   ·rw [h.1]; exact .inr ⟨hιn g ha,zb1.refl _⟩
   ·rw [h]; exact .inl rfl
   ·rw [h,h1]; exact .inr ⟨hιn g ha,rfl,h3⟩
   ·rw [h] at e; simp [Loc.new] at e
 refine ⟨⟨?_,?_,?_,?_,htab,?_,?_,Nat.le_trans hm.size hk.size,hm.size0,by rw [hk.os]; exact hm.os,by rw [hk.tape]; exact hm.tape,by rw [hk.output]; exact hm.output,?_,?_⟩,hg,hout⟩
 ·intro g;rcases hL' g with ⟨p,ha,h⟩ | ⟨ha,h | h | ⟨sz,els,els',h1,h,h3,h4,h5⟩ | ⟨k,wr,T,T',rfl,h1,h⟩⟩
  ·obtain ⟨sz,els,β⟩:=p;rw [h,hιa g _ ha];have hr:=hrow g sz els β ha;show zgt c' L' w' N β (.arr sz els true)
   cases β with
   | none=>exact hr
   | some b=>
    obtain ⟨x,T,fz,r1,r2,r3,vs,r4⟩:=hr
    refine ⟨x,T,fz,r1,r2,r3,vs,fun i d hd=>⟨?_,(r4 i d hd).2.1,(r4 i d hd).2.2⟩⟩
    rw [hcγ]; exact ((r4 i d hd).1).out hout (Nat.le_refl _)
  ·rw [h.1,hιn g ha]
   refine (hm.obj g).grow hg fun b hb hd=>?_
   obtain ⟨_,a2,a3⟩:=hm.mine g b hb hd
   exact hold b a2 (fun h=>a3 (hOw b h)) (h.2 b hb hd)
  ·rw [h]; trivial
  ·rw [h,hιn g ha];have hr:=h5.flat (A:=own c' L') (N:=N) h4;rw [←hcγ] at hr;generalize c.ι g=β at hr ⊢
   cases β with
   | none=>exact hr
   | some b=>exact hr
  ·rw [h]; trivial
 ·intro g g' b h1 h2 h3 h4
  cases ha:ad g with
  | none=>
   rw [hιn g ha] at h1;have k1:=hwas g b ha h1 h3
   cases ha':ad g' with
   | none=>
    rw [hιn g' ha'] at h2
    exact hm.inj g g' b h1 h2 k1.1 (hwas g' b ha' h2 h4).1
   | some p=>
    obtain ⟨sz,els,β⟩:=p;rw [hιa g' _ ha'] at h2;simp only at h2; subst h2;rcases (hblk g' sz els b ha').1 with h' | h'
    ·have:=(hm.mine g b h1 k1.1).2.1; omega
    ·exact absurd h' (hnoOb g b ha h3 k1.1 h1)
  | some p=>
   obtain ⟨sz,els,β⟩:=p;rw [hιa g _ ha] at h1;simp only at h1; subst h1
   cases ha':ad g' with
   | none=>
    rw [hιn g' ha'] at h2;have k1:=hwas g' b ha' h2 h4;rcases (hblk g sz els b ha).1 with h' | h'
    ·have:=(hm.mine g' b h2 k1.1).2.1; omega
    ·exact absurd h' (hnoOb g' b ha' h4 k1.1 h2)
   | some p'=>
    obtain ⟨sz',els',β'⟩:=p';rw [hιa g' _ ha'] at h2;simp only at h2; subst h2;exact hinj g g' _ _ _ _ b ha ha'
 ·intro g b h1 h2
  cases ha:ad g with
  | none=>
   rw [hιn g ha] at h1;have k1:=hwas g b ha h1 h2;obtain ⟨a1,a2,a3⟩:=hm.mine g b h1 k1.1
   refine ⟨a1,Nat.lt_of_lt_of_le a2 hk.size,fun h=>?_⟩
   rcases (hcO b).1 h with ⟨h,_⟩ | h
   ·exact a3 h
   ·rcases (hO b h).2 with h' | h' | h'
    ·exact a3 (hOw b h')
    ·exact hnoOb g b ha h2 k1.1 h1 h'
    ·omega
  | some p=>
   obtain ⟨sz,els,β⟩:=p;rw [hιa g _ ha] at h1;simp only at h1; subst h1;obtain ⟨a1,a2,a3⟩:=hblk g sz els b ha
   refine ⟨.inl ?_,a2,fun h=>?_⟩
   ·rcases a1 with h | h
    ·exact Nat.le_trans hm.size h
    ·exact (hGO b (hOb b h)).2.1
   ·rcases (hcO b).1 h with ⟨h,_⟩ | h
    ·rcases a1 with h' | h'
     ·have:=(hm.osub b h).1; omega
     ·exact (hGO b (hOb b h')).1 h
    ·exact a3 h
 ·intro g b h1 h2 h3 h4
  cases ha:ad g with
  | none=>
   rw [hιn g ha] at h1;have k1:=hwas g b ha h1 h2
   exact hm.mineN g b h1 k1.1 (k1.2.2 h3) h4
  | some p=>
   obtain ⟨sz,els,β⟩:=p;rw [hιa g _ ha] at h1;simp only at h1; subst h1;rcases (hblk g sz els b ha).1 with h | h
   ·exact Nat.le_trans hm.size h
   ·exact (hGO b (hOb b h)).2.1
 ·intro k; rw [hιn _ (had k)]; exact hm.iotab k
 ·intro k;rcases hL' (tb k) with ⟨p,ha,h⟩ | ⟨ha,h | h | ⟨sz,els,els',h1,h,h3,h4,h5⟩ | ⟨k',wr,T,T',_,h1,h⟩⟩
  ·rw [had k] at ha; cases ha
  ·rw [h.1]; exact hm.only k
  ·rw [h]; exact .inl rfl
  ·rcases hm.only k with e | ⟨_,_,e⟩<;>rw [h1] at e<;>cases e
  ·rw [h]; exact .inr ⟨_,_,rfl⟩
 ·intro b hb hO0
  rw [hold b (Nat.lt_of_lt_of_le hb hm.size) (fun h=>?_) fun h=>?_]
  ·exact hm.keep b hb hO0
  ·rcases (hm.osub b (hOw b h)).2 with h' | h'
   ·exact hO0 h'
   ·omega
  ·have:=(hGO b h).2.1; omega
 ·intro b hb;rcases (hcO b).1 hb with ⟨h,_⟩ | h
  ·obtain ⟨a1,a2⟩:=hm.osub b h;exact ⟨Nat.lt_of_lt_of_le a1 hk.size,a2⟩
  ·obtain ⟨a1,a2⟩:=hO b h;refine ⟨a1,?_⟩;rcases a2 with h' | h' | h'
   ·exact (hm.osub b (hOw b h')).2
   ·exact .inr (hGO b (hOb b h')).2.1
   ·exact .inr (Nat.le_trans hm.size h')
end
end Wf

namespace Wf
open Go Go.RowKit
theorem zcq.of {L L':Loc} {k i:Nat} {q:Option Nat} (h:zcq L k i q) (hT:∀ wr T,za6 L k=some (wr,T)→∃ wr',za6 L' k=some (wr',T)):zcq L' k i q:=by
 cases q with
 | none=>
  obtain ⟨wr,T,h1,h2⟩:=h;obtain ⟨wr',h3⟩:=hT wr T h1
  exact ⟨wr',T,h3,h2⟩
 | some o=>
  obtain ⟨wr,T,x,h1,h2,h3⟩:=h;obtain ⟨wr',h4⟩:=hT wr T h1;exact ⟨wr',T,x,h4,h2,h3⟩
section
variable {c:Ctx} {N:Nat} {w0:World} {O0:Nat→Prop} {L Lr:Loc} {w:World}
theorem zcq.tab {L:Loc} {k i:Nat} {q:Option Nat} (h:zcq L k i q):∃ wr T,za6 L k=some (wr,T):=by
 cases q with
 | none=>obtain ⟨wr,T,h,_⟩:=h; exact ⟨wr,T,h⟩
 | some o=>obtain ⟨wr,T,_,h,_⟩:=h; exact ⟨wr,T,h⟩
theorem Ows.sub (hm:Mem c N w0 O0 L w) {W:Nat→Prop} (hW:∀ k,W k→∃ T,za6 L k=some (true,T)) {b:Nat} (h:Ows c L W b):c.O b:=by
 obtain ⟨k,i,q,h1,h2,h3⟩:=h;obtain ⟨T,h4⟩:=hW k h1;exact hm.tab.wr k T i q b h4 h2 h3
theorem Ows.not (hm:Mem c N w0 O0 L w) {W:Nat→Prop} {k i b:Nat} {q:Option Nat} (hk:¬ W k) (h1:zcq L k i q) (h2:c.tab k i q=some b):¬ Ows c L W b:=by
 rintro ⟨k',i',q',p1,p2,p3⟩
 obtain ⟨rfl,_,_⟩:=hm.tab.inj k i q k' i' q' b h1 p2 h2 p3;exact hk p1
theorem zGy (hm:Mem c N w0 O0 L w) {W:Nat→Prop} {Gb:Nat→Prop} {LT:Loc} (hW:∀ k,W k→∃ T,za6 L k=some (true,T))
  (hT:∀ k wr T,za6 LT k=some (wr,T)→(∃ wr0,za6 L k=some (wr0,T))∧(wr=true↔W k)) (hG:∀ b,Gb b→∃ g,c.ι g=some b∧(L g).2≠.dead):
  TabRel LT (zjv c.γ c.ρ (Ows c L W)) (fun b=>b < w.heap.size∧¬ (Ows c L W b∨Gb b)) w:=by
 have ht:∀ k i q,zcq LT k i q→zcq L k i q:=fun k i q h=>h.of fun wr T h=>(hT k wr T h).1
 have htab:∀ k i q,(zjv c.γ c.ρ (Ows c L W)).tab k i q=c.tab k i q:=fun k i q=>by cases q<;>rfl
 refine ⟨fun k wr T i cs h1 h2=>?_,fun k wr T i b h1 h2=>?_,fun k i q k' i' q' b h1 h2 h3 h4=>?_,fun k T i q b h1 h2 h3=>?_,fun k T i q b h1 h2 h3=>?_⟩
 ·obtain ⟨⟨wr0,h3⟩,_⟩:=hT k wr T h1;exact hm.tab.obj k wr0 T i cs h3 h2
 ·obtain ⟨⟨wr0,h3⟩,_⟩:=hT k wr T h1;exact hm.tab.tight k wr0 T i b h3 h2
 ·rw [htab] at h3 h4;exact hm.tab.inj k i q k' i' q' b (ht _ _ _ h1) (ht _ _ _ h2) h3 h4
 ·rw [htab] at h3;exact ⟨k,i,q,(hT k true T h1).2.1 rfl,ht _ _ _ h2,h3⟩
 ·rw [htab] at h3
  have hnW:¬ W k:=fun h=>by have:=(hT k false T h1).2.2 h; cases this
  have hno:=Ows.not hm hnW (ht _ _ _ h2) h3;obtain ⟨o,ho⟩:=hm.tab.block (ht _ _ _ h2) h3;refine ⟨hno,zbd ho,?_⟩
  rintro (h | h)
  ·exact hno h
  ·obtain ⟨g,g1,g2⟩:=hG b h;obtain ⟨a1,a2,a3⟩:=hm.mine g b g1 g2;exact hm.not_tab (ht _ _ _ h2) h3 a1 a3
theorem zz8 (hm:Mem c N w0 O0 L w) {W:Nat→Prop} {Gb Ob O':Nat→Prop} {LT L':Loc} {w':World} {γ':Nat→Nat→Option Nat} {ρ':Nat→Nat→Nat→Option Nat} {ad:Nat→Option (Nat×List D×Option Nat)}
  (hγ:∀ k i b,c.γ k i=some b→γ' k i=some b) (hsame:∀ k,¬ W k→γ' k=c.γ k∧ρ' k=c.ρ k)
  (hOb:∀ b,Ob b→Gb b) (hG:∀ b,Gb b→∃ g,c.ι g=some b∧(L g).2≠.dead) (hO:∀ b,O' b→b < w'.heap.size∧(Ows c L W b∨Ob b∨w.heap.size≤b)) (hk:Kept w (fun b=>Ows c L W b∨Gb b) w')
  (hTin:TabRel LT (zjv γ' ρ' O') (fun _=>True) w') (hW':∀ k,W k→∃ T',za6 LT k=some (true,T')∧za6 L' k=some (true,T')) (hN:∀ k,¬ W k→za6 L' k=za6 L k):
  TabRel L' (zg2 c γ' ρ' O' (Ows c L W) ad) (fun b=>b < N∧¬ O0 b) w':=by
 have htab:∀ k i q,(zg2 c γ' ρ' O' (Ows c L W) ad).tab k i q=(zjv γ' ρ' O').tab k i q:=fun k i q=>by cases q<;>rfl
 have tW:∀ k i q,W k→zcq L' k i q→zcq LT k i q:=fun k i q h1 h2=>h2.of fun wr T h=>by
  obtain ⟨T',a1,a2⟩:=hW' k h1;rw [h] at a2; cases a2;exact ⟨true,a1⟩
 have oW:∀ k i q b,W k→zcq L' k i q→(zjv γ' ρ' O').tab k i q=some b→O' b:=fun k i q b h1 h2 h3=>by
  obtain ⟨T',a1,a2⟩:=hW' k h1;exact hTin.wr k T' i q b a1 (tW k i q h1 h2) h3
 have tN:∀ k i q,¬ W k→zcq L' k i q→zcq L k i q:=fun k i q h1 h2=>h2.of fun wr T h=>⟨wr,by rw [←hN k h1]; exact h⟩
 have cN:∀ k i q,¬ W k→(zjv γ' ρ' O').tab k i q=c.tab k i q:=fun k i q h1=>by
  obtain ⟨e1,e2⟩:=hsame k h1
  cases q with
  | none=>show γ' k i=c.γ k i; rw [e1]
  | some o=>show ρ' k i o=c.ρ k i o; rw [e2]
 have bN:∀ k i q b,¬ W k→zcq L k i q→c.tab k i q=some b→b < w.heap.size∧¬ Ows c L W b∧¬ Gb b∧¬ O' b∧w'.heap[b]? =w.heap[b]? :=fun k i q b h1 h2 h3=>by
  obtain ⟨o,ho⟩:=hm.tab.block h2 h3;have hlt:=zbd ho;have h4:=Ows.not hm h1 h2 h3
  have h5:¬ Gb b:=fun h=>by
   obtain ⟨g,g1,g2⟩:=hG b h;obtain ⟨a1,a2,a3⟩:=hm.mine g b g1 g2;exact hm.not_tab h2 h3 a1 a3
  refine ⟨hlt,h4,h5,fun h=>?_,hk.block b hlt fun h=>?_⟩
  ·rcases (hO b h).2 with h' | h' | h'
   ·exact h4 h'
   ·exact h5 (hOb b h')
   ·omega
  ·rcases h with h | h
   ·exact h4 h
   ·exact h5 h
 refine ⟨fun k wr T i cs h1 h2=>?_,fun k wr T i b h1 h2=>?_,fun k i q k' i' q' b h1 h2 h3 h4=>?_,fun k T i q b h1 h2 h3=>?_,fun k T i q b h1 h2 h3=>?_⟩
 ·by_cases hw:W k
  ·obtain ⟨T',a1,a2⟩:=hW' k hw;rw [h1] at a2; cases a2;exact hTin.obj k true T i cs a1 h2
  ·rw [hN k hw] at h1;obtain ⟨b,x,ty,fz,p1,p2,p3,p4,p5⟩:=hm.tab.obj k wr T i cs h1 h2;have hth:zcq L k i none:=⟨wr,T,h1,za3 h2⟩;obtain ⟨_,_,_,_,e⟩:=bN k i none b hw hth p1
   refine ⟨b,x,ty,fz,hγ k i b p1,by rw [e]; exact p2,p3.same e,p4,fun o d u hd hu=>⟨(p5 o d u hd hu).1,?_⟩⟩
   have hc:=(p5 o d u hd hu).2;show CellOk γ' w' (zcS k o) (ρ' k i o) d u;rw [(hsame k hw).2]
   by_cases hr:d.isRow=true
   ·exact hc.mono (fun b hb=>(bN k i (some o) b hw ⟨wr,T,d,h1,by unfold zdc; rw [h2]; exact hd,hr⟩ hb).2.2.2.2) hγ
   ·cases hc with
    | undef u=>exact .undef u
    | flat d u h1 h2=>exact .flat d u h1 (h2.fl h1 hγ).1
    | rowE a h=>exact absurd rfl hr
    | row=>exact absurd rfl hr
    | mp=>exact absurd rfl hr
 ·by_cases hw:W k
  ·obtain ⟨T',a1,a2⟩:=hW' k hw;rw [h1] at a2; cases a2;exact hTin.tight k true T i b a1 h2
  ·rw [hN k hw] at h1;have h2':γ' k i=some b:=h2;rw [(hsame k hw).1] at h2';exact hm.tab.tight k wr T i b h1 h2'
 ·rw [htab] at h3 h4
  by_cases hw:W k<;>by_cases hw':W k'
  ·exact hTin.inj k i q k' i' q' b (tW _ _ _ hw h1) (tW _ _ _ hw' h2) h3 h4
  ·have:=oW k i q b hw h1 h3;rw [cN _ _ _ hw'] at h4;exact absurd this (bN k' i' q' b hw' (tN _ _ _ hw' h2) h4).2.2.2.1
  ·have:=oW k' i' q' b hw' h2 h4;rw [cN _ _ _ hw] at h3;exact absurd this (bN k i q b hw (tN _ _ _ hw h1) h3).2.2.2.1
  ·rw [cN _ _ _ hw] at h3;rw [cN _ _ _ hw'] at h4;exact hm.tab.inj k i q k' i' q' b (tN _ _ _ hw h1) (tN _ _ _ hw' h2) h3 h4
 ·rw [htab] at h3
  by_cases hw:W k
  ·exact .inr (oW k i q b hw h2 h3)
  ·rw [cN _ _ _ hw] at h3;have h2':=tN _ _ _ hw h2;rw [hN k hw] at h1;exact .inl ⟨hm.tab.wr k T i q b h1 h2' h3,(bN k i q b hw h2' h3).2.1⟩
 ·rw [htab] at h3
  by_cases hw:W k
  ·obtain ⟨T',a1,a2⟩:=hW' k hw;rw [h1] at a2; cases a2
  ·rw [cN _ _ _ hw] at h3;have h2':=tN _ _ _ hw h2;rw [hN k hw] at h1;obtain ⟨a1,a2⟩:=hm.tab.ro k T i q b h1 h2' h3;refine ⟨?_,a2⟩
   rintro (h | h)
   ·exact a1 h.1
   ·exact (bN k i q b hw h2' h3).2.2.2.1 h
theorem zh6:∀ {ks:List (Nat×Bool)} {Ts:List Tb} {k:Nat} {wr:Bool} {T:Tb},za6 (zbq ks Ts) k=some (wr,T)→∃ j:Nat,ks[j]? =some (k,wr)∧Ts[j]? =some T
 | [],Ts,k,wr,T,h=>by simp [zbq,za6] at h
 | _::_,[],k,wr,T,h=>by simp [zbq,za6] at h
 | (k0,w0)::ks,T0::Ts,k,wr,T,h=>by
  simp only [zbq] at h
  by_cases e:k=k0
  ·subst e;unfold za6 at h;rw [Loc.set_same] at h;simp at h;obtain ⟨rfl,rfl⟩:=h;exact ⟨0,rfl,rfl⟩
  ·rw [zby (Loc.set_ne _ _ fun h=>e (zfq h))] at h
   obtain ⟨j,h1,h2⟩:=zh6 h;exact ⟨j+1,h1,h2⟩
theorem zlP:∀ {ks:List (Nat×Bool)} {Ts:List Tb} {j k:Nat} {wr:Bool} {T:Tb},(ks.map (·.1)).Nodup→ks[j]? =some (k,wr)→Ts[j]? =some T→za6 (zbq ks Ts) k=some (wr,T)
 | [],Ts,j,k,wr,T,_,h,_=>by simp at h
 | _::_,[],j,k,wr,T,_,_,h=>by simp at h
 | (k0,w0)::ks,T0::Ts,j,k,wr,T,hn,h1,h2=>by
  simp only [List.map_cons,List.nodup_cons] at hn;simp only [zbq]
  cases j with
  | zero=>
   simp at h1 h2;obtain ⟨rfl,rfl⟩:=h1;subst h2
   unfold za6; rw [Loc.set_same]
  | succ j=>
   simp at h1 h2
   have:k≠k0:=fun e=>hn.1 (List.mem_map.2 ⟨(k,wr),List.mem_of_getElem? h1,e⟩)
   rw [zby (Loc.set_ne _ _ fun h=>this (zfq h))]
   exact zlP hn.2 h1 h2
theorem zjw {L:Loc}:∀ {ks:List (Nat×Bool)} {Ts:List Tb},zj7 L ks=some Ts→Ts.length=ks.length∧∀ (j k:Nat) (wr:Bool) (T:Tb),ks[j]? =some (k,wr)→Ts[j]? =some T→∃ wr0,za6 L k=some (wr0,T)∧(wr=true→wr0=true)
 | [],Ts,h=>by simp [zj7] at h; subst h; simp
 | (k0,w0)::ks,Ts,h=>by
  simp only [zj7] at h;split at h
  rotate_left
  ·cases h
  rename_i wr0 T0 hT;split at h
  rotate_left
  ·cases h
  rename_i hw
  cases hr:zj7 L ks with
  | none=>rw [hr] at h; cases h
  | some Ts0=>
   rw [hr] at h;injection h with h; subst h;obtain ⟨q1,q2⟩:=zjw hr
   refine ⟨by simp [q1],fun j k wr T h1 h2=>?_⟩
   cases j with
   | zero=>
    simp at h1 h2;obtain ⟨rfl,rfl⟩:=h1;subst h2
    exact ⟨wr0,hT,hw⟩
   | succ j=>exact q2 j k wr T (by simpa using h1) (by simpa using h2)
theorem zil {ks:List (Nat×Bool)} {k:Nat}:k∈ksW ks↔(k,true)∈ks:=by
 unfold ksW;rw [List.mem_map];constructor
 ·rintro ⟨⟨k',b⟩,h,rfl⟩
  rw [List.mem_filter] at h;obtain ⟨h1,h2⟩:=h;simp at h2; subst h2; exact h1
 ·intro h;exact ⟨(k,true),List.mem_filter.2 ⟨h,rfl⟩,rfl⟩
theorem zh7 {L:Loc}:∀ {ks:List (Nat×Bool)} {Ts Ts':List Tb} (Lb:Loc),(ks.map (·.1)).Nodup→Ts.length=ks.length→Ts'.length=(ksW ks).length→
  (zdK ks Ts Ts').length=ks.length∧(∀ k,k∈ksW ks→∃ T,za6 (zbq ks (zdK ks Ts Ts')) k=some (true,T)∧(Lb.upd (zh2 L (ksW ks) Ts')) (tb k)=(L.new (tb k),.tbl true T))∧
  ∀ g,(∀ k∈ksW ks,g≠tb k)→(Lb.upd (zh2 L (ksW ks) Ts')) g=Lb g
 | [],Ts,Ts',Lb,_,h1,h2=>by
  refine ⟨by cases Ts<;>rfl,by simp [ksW],fun g _=>?_⟩
  cases Ts'<;>rfl
 | (k0,w0)::ks,[],Ts',Lb,_,h1,h2=>by simp at h1
 | (k0,false)::ks,T0::Ts,Ts',Lb,hn,h1,h2=>by
  simp only [List.map_cons,List.nodup_cons] at hn
  have e:ksW ((k0,false)::ks)=ksW ks:=by simp [ksW]
  rw [e] at h2 ⊢
  obtain ⟨q1,q2,q3⟩:=zh7 Lb (L:=L) hn.2 (Ts:=Ts) (Ts':=Ts') (by simpa using h1) h2
  have en:zdK ((k0,false)::ks) (T0::Ts) Ts'=T0::zdK ks Ts Ts':=by cases Ts'<;>rfl
  rw [en]
  refine ⟨by simp [q1],fun k hk=>?_,q3⟩
  obtain ⟨T,a1,a2⟩:=q2 k hk;refine ⟨T,?_,a2⟩;simp only [zbq]
  have:k≠k0:=fun e=>hn.1 (List.mem_map.2 ⟨(k,true),zil.1 hk,e⟩)
  rw [zby (Loc.set_ne _ _ fun h=>this (zfq h))]; exact a1
 | (k0,true)::ks,T0::Ts,[],Lb,hn,h1,h2=>by simp [ksW] at h2
 | (k0,true)::ks,T0::Ts,T'::Ts',Lb,hn,h1,h2=>by
  simp only [List.map_cons,List.nodup_cons] at hn
  have e:ksW ((k0,true)::ks)=k0::ksW ks:=by simp [ksW]
  rw [e] at h2 ⊢
  obtain ⟨q1,q2,q3⟩:=zh7 (Lb.set (tb k0) (L.new (tb k0),.tbl true T')) (L:=L) hn.2 (Ts:=Ts) (Ts':=Ts') (by simpa using h1) (by simpa using h2)
  have hk0:∀ k∈ksW ks,k≠k0:=fun k hk e=>hn.1 (List.mem_map.2 ⟨(k,true),zil.1 hk,e⟩)
  simp only [zdK,zh2,zbq,Loc.upd]
  refine ⟨by simp [q1],fun k hk=>?_,fun g hg=>?_⟩
  ·rcases List.mem_cons.1 hk with rfl | hk
   ·refine ⟨T',by unfold za6; rw [Loc.set_same],?_⟩
    rw [q3 _ fun k' hk' e=>hk0 k' hk' (zfq e).symm,Loc.set_same]
   ·obtain ⟨T,a1,a2⟩:=q2 k hk;refine ⟨T,?_,a2⟩
    rw [zby (Loc.set_ne _ _ fun h=>hk0 k hk (zfq h))]; exact a1
  ·rw [q3 g fun k hk=>hg k (by simp [hk]),Loc.set_ne _ _ (hg k0 (by simp))]
end
end Wf

namespace Wf
open Go Go.RowKit
theorem zn0 (i:Nat):pmAt [] i=(.lent,0):=by simp [pmAt]
theorem zxh (pms:List (PM×Nat)):pms.headD (.lent,0)=pmAt pms 0:=by cases pms<;>rfl
theorem zn1 (pms:List (PM×Nat)) (i:Nat):pmAt pms.tail i=pmAt pms (i+1):=by cases pms<;>simp [pmAt]
theorem zkJ (pms:List (PM×Nat)):zcT pms 0=0:=by simp [zcT]
theorem zfC (pms:List (PM×Nat)) (i:Nat):zcT pms (i+1)=(if (pmAt pms 0).1=.mut then 1 else 0)+zcT pms.tail i:=by
 cases pms with
 | nil=>simp [zcT,pmAt]
 | cons p pms=>
  simp only [zcT,List.take_succ_cons,List.tail_cons,pmAt,List.getD_cons_zero]
  by_cases h:p.1=.mut<;>simp [List.filter_cons,h]<;>omega
theorem zlQ {nw:List Nat} {L:Loc}:∀ {vs:List V} {pms:List (PM×Nat)} {ds:List D} {ms:List (Nat×Nat×Nat×Nat)} {kl:Wr},znO nw L pms vs=some (ds,ms,kl)→
  ds.length=vs.length∧(∀ (i:Nat) (v:V) (d:D),vs[i]? =some v→ds[i]? =some d→∃ m k,zki nw L (pmAt pms i) v=some (d,m,k)∧(∀ p∈k,p∈kl)∧((pmAt pms i).1=.mut→∀ x∈m,ms[zcT pms i]? =some x))∧
  (∀ p∈kl,∃ (i:Nat) (v:V) (d:D) (m:_) (k:Wr),vs[i]? =some v∧ds[i]? =some d∧zki nw L (pmAt pms i) v=some (d,m,k)∧p∈k)∧
  (∀ (j:Nat) (x:_),ms[j]? =some x→∃ (i:Nat) (v:V) (d:D) (m:_) (k:Wr),vs[i]? =some v∧ds[i]? =some d∧zki nw L (pmAt pms i) v=some (d,m,k)∧x∈m∧j=zcT pms i∧(pmAt pms i).1=.mut)
 | [],pms,ds,ms,kl,h=>by
  simp [znO] at h;obtain ⟨rfl,rfl,rfl⟩:=h
  simp
 | v::vs,pms,ds,ms,kl,h=>by
  simp only [znO] at h;rw [zxh] at h
  cases h1:zki nw L (pmAt pms 0) v with
  | none=>rw [h1] at h; cases h
  | some x=>
  obtain ⟨d0,m0,k0⟩:=x;rw [h1] at h;simp only [Option.bind_some] at h
  cases h2:znO nw L pms.tail vs with
  | none=>rw [h2] at h; cases h
  | some y=>
  obtain ⟨ds',ms',kl'⟩:=y;rw [h2] at h;simp at h;obtain ⟨rfl,rfl,rfl⟩:=h;obtain ⟨q1,q2,q3,q4⟩:=zlQ h2
  have hm0:m0.length=if (pmAt pms 0).1=.mut then 1 else 0:=by
   generalize pmAt pms 0=pm at h1;obtain ⟨m,sz⟩:=pm
   cases m with
   | lent=>
    simp only [zki] at h1
    cases hl:lend nw L v with
    | none=>rw [hl] at h1; cases h1
    | some z=>rw [hl] at h1; simp at h1; obtain ⟨_,rfl,_⟩:=h1; simp
   | own=>
    simp only [zki] at h1;split at h1
    ·split at h1
     ·split at h1
      ·simp at h1; obtain ⟨_,rfl,_⟩:=h1; simp
      ·cases h1
     ·cases h1
    ·simp at h1; obtain ⟨_,rfl,_⟩:=h1; simp
    ·simp at h1; obtain ⟨_,rfl,_⟩:=h1; simp
    ·cases h1
   | «mut»=>
    simp only [zki] at h1;split at h1
    ·split at h1
     ·split at h1
      ·simp at h1; obtain ⟨_,rfl,_⟩:=h1; simp
      ·cases h1
     ·cases h1
    ·cases h1
  refine ⟨by simp [q1],fun i u d hu hd=>?_,fun p hp=>?_,fun j x hx=>?_⟩
  ·cases i with
   | zero=>
    simp at hu hd; subst hu; subst hd
    refine ⟨m0,k0,h1,fun p hp=>by simp [hp],fun hmut x hx=>?_⟩
    rw [zkJ];rw [if_pos hmut] at hm0
    match m0,hm0,hx with
    | [y],_,hx=>simp at hx; subst hx; rfl
   | succ i=>
    obtain ⟨m,k,a1,a2,a3⟩:=q2 i u d (by simpa using hu) (by simpa using hd)
    rw [zn1] at a1 a3
    refine ⟨m,k,a1,fun p hp=>by simp [a2 p hp],fun hmut x hx=>?_⟩
    rw [zfC,←hm0,List.getElem?_append_right (by omega),Nat.add_sub_cancel_left]
    exact a3 hmut x hx
  ·rcases List.mem_append.1 hp with hp | hp
   ·exact ⟨0,v,d0,m0,k0,rfl,rfl,h1,hp⟩
   ·obtain ⟨i,u,d,m,k,a1,a2,a3,a4⟩:=q3 p hp;rw [zn1] at a3;exact ⟨i+1,u,d,m,k,a1,a2,a3,a4⟩
  ·by_cases hj:j < m0.length
   ·rw [List.getElem?_append_left hj] at hx
    have hmut:(pmAt pms 0).1=.mut:=by
     apply Classical.byContradiction;intro hne;rw [if_neg hne] at hm0; omega
    rw [if_pos hmut] at hm0
    have:j=0:=by omega
    subst this;exact ⟨0,v,d0,m0,k0,rfl,rfl,h1,List.mem_of_getElem? hx,(zkJ _).symm,hmut⟩
   ·rw [List.getElem?_append_right (by omega)] at hx
    obtain ⟨i,u,d,m,k,a1,a2,a3,a4,a5,a6⟩:=q4 _ x hx;rw [zn1] at a3 a6
    exact ⟨i+1,u,d,m,k,a1,a2,a3,a4,by rw [zfC,←hm0]; omega,a6⟩
theorem zmZ {L:Loc}:∀ {vs:List V} {pms:List (PM×Nat)} {bef:List V},zmD L pms bef vs=true→
  ∀ (i:Nat) (v:V),vs[i]? =some v→(pmAt pms i).1≠.lent→(∀ u∈bef,∀ g∈v.ids,g ∉ znP L [u])∧∀ (j:Nat) (u:V),j≠i→vs[j]? =some u→∀ g∈v.ids,g ∉ znP L [u]
 | [],_,_,_,i,v,h,_=>by simp at h
 | v::vs,pms,bef,h,i,v',hv,hp=>by
  simp only [zmD,zxh,Bool.and_eq_true,Bool.or_eq_true,decide_eq_true_eq] at h;obtain ⟨h1,h2⟩:=h
  cases i with
  | zero=>
   simp at hv; subst hv
   have h3:∀ g∈v.ids,g ∉ znP L (bef++vs):=by
    rcases h1 with h1 | h1
    ·exact absurd h1 hp
    ·rw [List.all_eq_true] at h1;intro g hg;have:=h1 g hg;simpa using this
   have sub:∀ u,u∈bef++vs→∀ g∈v.ids,g ∉ znP L [u]:=fun u hu g hg hd=>h3 g hg (zxe (fun g' hg'=>zg1 hu (by simpa [V.idsL] using hg')) hd)
   refine ⟨fun u hu=>sub u (by simp [hu]),fun j u hj hu=>?_⟩
   cases j with
   | zero=>exact absurd rfl hj
   | succ j=>exact sub u (by simp [List.mem_of_getElem? (show vs[j]? =some u by simpa using hu)])
  | succ i=>
   obtain ⟨q1,q2⟩:=zmZ h2 i v' (by simpa using hv) (by rw [zn1]; exact hp)
   refine ⟨fun u hu=>q1 u (by simp [hu]),fun j u hj hu=>?_⟩
   cases j with
   | zero=>simp at hu; subst hu; exact q1 v (by simp)
   | succ j=>exact q2 j u (by omega) (by simpa using hu)
theorem zry:∀ {ms:List (Nat×Nat×Nat×Nat)} {os:List (List D)} {wo:Wr},zj8 ms os=some wo→
  wo.length=ms.length∧∀ (j g n sz len:Nat),ms[j]? =some (g,n,sz,len)→∃ els,os[j]? =some els∧els.length=len∧wo[j]? =some (g,(n,.arr sz els true))
 | [],[],wo,h=>by simp [zj8] at h; subst h; simp
 | [],_::_,wo,h=>by simp [zj8] at h
 | _::_,[],wo,h=>by simp [zj8] at h
 | (g,n,sz,len)::ms,els::os,wo,h=>by
  simp only [zj8] at h;split at h
  rotate_left
  ·cases h
  rename_i hl
  cases hr:zj8 ms os with
  | none=>rw [hr] at h; cases h
  | some w=>
   rw [hr] at h;injection h with h; subst h;obtain ⟨q1,q2⟩:=zry hr
   refine ⟨by simp [q1],fun j g' n' sz' len' hj=>?_⟩
   cases j with
   | zero=>
    simp at hj;obtain ⟨rfl,rfl,rfl,rfl⟩:=hj
    exact ⟨els,rfl,hl,rfl⟩
   | succ j=>exact q2 j g' n' sz' len' (by simpa using hj)
theorem zGz {wr:Wr}:∀ {L:Loc} {g:Nat} {x:Nat×HObj},(wr.map (·.1)).Nodup→(g,x)∈wr→L.upd wr g=x:=by
 induction wr with
 | nil=>intro L g x _ h; cases h
 | cons p wr ih=>
  intro L g x hn h;simp only [List.map_cons,List.nodup_cons] at hn;simp only [Loc.upd];rcases List.mem_cons.1 h with rfl | h
  ·rw [zrw hn.1,Loc.set_same]
  ·exact ih hn.2 h
def gvOf (c:Ctx) (pms:List (PM×Nat)) (vs:List V) (i:Nat):Option Nat:=if (pmAt pms i).1=.lent then none else match vs[i]? with
 | some (.ref g _ _ _)=>c.ι g
 | _=>none
section
variable {c:Ctx} {N:Nat} {w0:World} {O0:Nat→Prop} {L Lr:Loc} {w:World}
theorem zhn {nw:List Nat} {pm:PM×Nat} {v:V} {d:D} {m:List (Nat×Nat×Nat×Nat)} {k:Wr} (hp:pm.1≠.lent) (h:zki nw Lr pm v=some (d,m,k)):
  (∃ g n len els,v=.ref g n 0 len∧Lr.get g n=.arr pm.2 els true∧len=els.length∧g < 90000∧els.all D.flatEl=true∧d=.sl .own els∧((pm.1=.own∧m=[]∧k=[(g,(n,.dead))])∨(pm.1=.mut∧m=[(g,n,pm.2,len)]∧k=[])))∨
  (pm.1=.own∧(v=.d (.sl .nil [])∨v=.d (.sl .full []))∧d=.sl .own []∧m=[]∧k=[]):=by
 obtain ⟨p,sz⟩:=pm
 cases p with
 | lent=>exact absurd rfl hp
 | own=>
  simp only [zki] at h;split at h
  ·rename_i g n off len;split at h
   ·rename_i sz' els hy;split at h
    ·rename_i hc;obtain ⟨c1,rfl,c3,c4⟩:=hc;simp at h;obtain ⟨rfl,rfl,rfl⟩:=h;exact .inl ⟨g,n,len,els,rfl,hy,c1,c3,c4,rfl,.inl ⟨rfl,rfl,rfl⟩⟩
    ·cases h
   ·cases h
  ·simp at h; obtain ⟨rfl,rfl,rfl⟩:=h; exact .inr ⟨rfl,.inl rfl,rfl,rfl,rfl⟩
  ·simp at h; obtain ⟨rfl,rfl,rfl⟩:=h; exact .inr ⟨rfl,.inr rfl,rfl,rfl,rfl⟩
  ·cases h
 | «mut»=>
  simp only [zki] at h;split at h
  ·rename_i g n off len;split at h
   ·rename_i sz' els hy;split at h
    ·rename_i hc;obtain ⟨c1,rfl,c3,c4⟩:=hc;simp at h;obtain ⟨rfl,rfl,rfl⟩:=h;exact .inl ⟨g,n,len,els,rfl,hy,c1,c3,c4,rfl,.inr ⟨rfl,rfl,rfl⟩⟩
    ·cases h
   ·cases h
  ·cases h
theorem zCj (hm:Mem c N w0 O0 L w) (hs:Sees Lr L) {nw:List Nat} {pms:List (PM×Nat)} {vs:List V} {us:List Value} {ds:List D} {ms:List (Nat×Nat×Nat×Nat)} {kl:Wr}
  (hg:znO nw Lr pms vs=some (ds,ms,kl)) (hok:zmD Lr pms [] vs=true) (hv:Vals c L w N vs us) (hW:∀ k,k∈nw→∃ T,za6 L k=some (true,T)):
  (∀ b,Gv (gvOf c pms vs) b→∃ i g n len els,vs[i]? =some (.ref g n 0 len)∧(pmAt pms i).1≠.lent∧gvOf c pms vs i=some b∧c.ι g=some b∧g < 90000∧L.get g n=.arr (pmAt pms i).2 els true∧len=els.length)∧
  (∀ i j b,gvOf c pms vs i=some b→gvOf c pms vs j=some b→i=j)∧
  zt0 w (fun b=>Ows c L (· ∈nw) b∨Gv (gvOf c pms vs) b) c.γ pms (gvOf c pms vs) ds us:=by
 obtain ⟨q1,q2,q3,q4⟩:=zlQ hg
 have one:∀ i b,gvOf c pms vs i=some b→∃ g n len els,vs[i]? =some (.ref g n 0 len)∧(pmAt pms i).1≠.lent∧c.ι g=some b∧g < 90000∧L.get g n=.arr (pmAt pms i).2 els true∧len=els.length:=by
  intro i b h;unfold gvOf at h;split at h
  ·cases h
  rename_i hp;split at h
  rotate_left
  ·cases h
  rename_i g n off len hvi;have hi:=za3 hvi
  obtain ⟨m,k,a1,_⟩:=q2 i _ (ds[i]'(by omega)) hvi (by simp)
  rcases zhn hp a1 with ⟨g',n',len',els,e,a2,a3,a4,a5,_⟩ | ⟨_,e | e,_⟩
  ·cases e
   exact ⟨g,n,len,els,hvi,hp,h,a4,by rw [←a2]; exact hs g n (by rw [a2]; simp),a3⟩
  ·cases e
  ·cases e
 have hGv:∀ b,Gv (gvOf c pms vs) b→∃ i g n len els,vs[i]? =some (.ref g n 0 len)∧(pmAt pms i).1≠.lent∧gvOf c pms vs i=some b∧c.ι g=some b∧g < 90000∧L.get g n=.arr (pmAt pms i).2 els true∧len=els.length:=by
  rintro b ⟨i,h⟩
  obtain ⟨g,n,len,els,a1,a2,a3,a4,a5,a6⟩:=one i b h;exact ⟨i,g,n,len,els,a1,a2,h,a3,a4,a5,a6⟩
 have hgok:=zmZ hok
 have hinj:∀ i j b,gvOf c pms vs i=some b→gvOf c pms vs j=some b→i=j:=by
  intro i j b h1 h2;obtain ⟨g,n,len,els,a1,a2,a3,a4,a5,a6⟩:=one i b h1;obtain ⟨g',n',len',els',b1,b2,b3,b4,b5,b6⟩:=one j b h2
  obtain ⟨_,e1⟩:=zbM a5 (by simp)
  obtain ⟨_,e2⟩:=zbM b5 (by simp)
  have hgg:=hm.inj g g' b a3 b3 (by rw [e1]; simp) (by rw [e2]; simp)
  subst hgg;apply Classical.byContradiction;intro hne
  exact (hgok i _ a1 a2).2 j _ (Ne.symm hne) b1 g (by simp [V.ids]) (zkI (by simp [V.idsL,V.ids]))
 have hGown:∀ b,Gv (gvOf c pms vs) b→own c L b∧¬ c.O b∧∃ g,c.ι g=some b∧(L g).2≠.dead:=by
  intro b h;obtain ⟨i,g,n,len,els,a1,a2,a3,a4,a5,a6,a7⟩:=hGv b h
  obtain ⟨_,e1⟩:=zbM a6 (by simp)
  exact ⟨.inr ⟨g,a4,by rw [e1]; rfl⟩,(hm.mine g b a4 (by rw [e1]; simp)).2.2,g,a4,by rw [e1]; simp⟩
 have hA:∀ b,(Ows c L (· ∈nw) b∨Gv (gvOf c pms vs) b)→own c L b:=by
  rintro b (h | h)
  ·exact .inl (h.sub hm hW)
  ·exact (hGown b h).1
 have htb:∀ k i q b,k ∉ nw→zcq L k i q→c.tab k i q=some b→¬ (Ows c L (· ∈nw) b∨Gv (gvOf c pms vs) b):=by
  rintro k i q b h1 h2 h3 (h | h)
  ·exact Ows.not hm h1 h2 h3 h
  ·obtain ⟨_,_,g,g1,g2⟩:=hGown b h;obtain ⟨a1,a2,a3⟩:=hm.mine g b g1 g2;exact hm.not_tab h2 h3 a1 a3
 refine ⟨hGv,hinj,by rw [q1]; exact hv.1,fun i d u hd hu=>?_⟩
 have hi:i < vs.length:=by have:=za3 hd; omega
 have hvi:vs[i]? =some vs[i]:=by simp
 have hval:=hv.2 i _ u hvi hu;obtain ⟨m,k,a1,_⟩:=q2 i _ d hvi hd;constructor
 ·intro hp
  refine ⟨by unfold gvOf; rw [if_pos hp],?_⟩
  have hl:lend nw Lr vs[i]=some d:=by
   generalize hpm:pmAt pms i=pm at a1 hp;obtain ⟨p,sz⟩:=pm;simp at hp; subst hp;simp only [zki] at a1
   cases hl:lend nw Lr vs[i] with
   | none=>rw [hl] at a1; cases a1
   | some z=>rw [hl] at a1; simp at a1; rw [a1.1]
  refine zGx hm hs hA htb ?_ hl hval
  rintro g hg b hb hd (h | h)
  ·exact (hm.mine g b hb hd).2.2 (h.sub hm hW)
  ·obtain ⟨j,g',n,len,els,b1,b2,b3,b4,b5,b6,b7⟩:=hGv b h
   obtain ⟨_,e1⟩:=zbM b6 (by simp)
   have:=hm.inj g g' b hb b4 hd (by rw [e1]; simp)
   subst this
   have hji:i≠j:=by rintro rfl; exact b2 hp
   exact (hgok j _ b1 b2).2 i _ hji hvi g (by simp [V.ids]) hg
 ·intro hp;rcases zhn hp a1 with ⟨g,n,len,els,e,a2,a3,a4,a5,a6,_⟩ | ⟨_,e,a6,_⟩
  ·have hL:=hs g n (by rw [a2]; simp)
   rw [a2] at hL
   have hgv:gvOf c pms vs i=c.ι g:=by unfold gvOf; rw [if_neg hp,hvi,e]
   refine ⟨els,a6,a5,?_,?_⟩
   ·rw [e] at hval
    cases hval with
    | ref _ _ _ _ _ k1 k2 k3=>
     rw [hgv,←a3];exact (k2 _ _ _ hL).2
   ·rw [hgv]
    have hob:=hm.get hL (by simp)
    refine zma.flat (B:=own c L) (N':=N) ?_ a5;generalize c.ι g=β at hob ⊢
    cases β with
    | none=>exact hob
    | some b=>exact hob
  ·have hgv:gvOf c pms vs i=none:=by
    unfold gvOf; rw [if_neg hp,hvi];rcases e with e | e<;>rw [e]
   refine ⟨[],a6,rfl,?_,?_⟩
   ·rw [hgv]
    have hr:Rep w (own c L) N c.γ (.sl .nil []) u∨Rep w (own c L) N c.γ (.sl .full []) u:=by
     rcases e with e | e<;>rw [e] at hval
     ·exact .inl hval.dat
     ·exact .inr hval.dat
    rcases hr with hr | hr
    ·cases hr with
     | slE _ a cap h1 h2 _=>exact ⟨a,cap,rfl,by simp,.inl (h2 rfl).2⟩
     | sl _ _ _ _ _ _ _ h=>exact absurd rfl h
    ·cases hr with
     | slE _ a cap h1 h2 _=>exact ⟨a,cap,rfl,by simp,.inl (h1 rfl)⟩
     | sl _ _ _ _ _ _ _ h=>exact absurd rfl h
   ·rw [hgv]; rfl
end
end Wf

namespace Wf
open Go Go.RowKit
section
variable {c:Ctx} {N:Nat} {w0:World} {O0:Nat→Prop} {L Lr:Loc} {w:World}
theorem zlR {id sz:Nat} {d:D} (h:∀ els,d≠.sl .own els):zgr L id sz d=(.d d,[]):=by
 unfold zgr;split
 ·rename_i els; exact absurd rfl (h els)
 ·rfl
theorem zrz {t:Nat}:∀ (szs:List Nat) (ds:List D) (j:Nat) (Lb:Loc),szs.length=ds.length→
  (zh1 L t j szs ds).1.length=ds.length∧
  (∀ (i:Nat) (d:D) (sz:Nat),ds[i]? =some d→szs[i]? =some sz→(zh1 L t j szs ds).1[i]? =some (zgr L (t+1000*(j+i+1)) sz d).1)∧
  (∀ (i:Nat) (els:List D) (sz:Nat),ds[i]? =some (.sl .own els)→szs[i]? =some sz→(Lb.upd (zh1 L t j szs ds).2) (t+1000*(j+i+1))=(L.new (t+1000*(j+i+1)),.arr sz els true))∧
  ∀ g,(∀ (i:Nat) (els:List D) (sz:Nat),ds[i]? =some (.sl .own els)→szs[i]? =some sz→g≠t+1000*(j+i+1))→(Lb.upd (zh1 L t j szs ds).2) g=Lb g
 | [],[],j,Lb,_=>⟨rfl,by simp,by simp,fun _ _=>rfl⟩
 | [],_::_,_,_,h=>by simp at h
 | _::_,[],_,_,h=>by simp at h
 | sz::szs,d::ds,j,Lb,h=>by
  let r:=zgr L (t+1000*(j+1)) sz d
  obtain ⟨k1,k2,k3,k4⟩:=zrz (t:=t) szs ds (j+1) (Lb.upd r.2) (by simpa using h)
  have hwr:∀ g,g≠t+1000*(j+1)→(Lb.upd r.2) g=Lb g:=by
   intro g hg
   by_cases ho:∃ els,d=.sl .own els
   ·obtain ⟨els,rfl⟩:=ho;simp only [r,zgr,Loc.upd,Loc.set_ne _ _ hg]
   ·have:r=(.d d,[]):=zlR fun els e=>ho ⟨els,e⟩
    rw [this]; rfl
  have hw0:∀ els,d=.sl .own els→(Lb.upd r.2) (t+1000*(j+1))=(L.new (t+1000*(j+1)),.arr sz els true):=by
   rintro els rfl
   simp only [r,zgr,Loc.upd,Loc.set_same]
  refine ⟨by simp [zh1,k1],?_,?_,?_⟩
  ·intro i d' sz' hd hs
   cases i with
   | zero=>simp at hd hs; subst hd; subst hs; simp [zh1]
   | succ i=>
    have:=k2 i d' sz' (by simpa using hd) (by simpa using hs)
    simp only [zh1,List.getElem?_cons_succ];rw [this]; congr 4; omega
  ·intro i els sz' hd hs;simp only [zh1,Loc.upd_append]
   cases i with
   | zero=>
    simp at hd hs; subst hs
    rw [k4 _ (fun i _ _ _ _=>by omega)]
    exact hw0 els hd
   | succ i=>
    have:=k3 i els sz' (by simpa using hd) (by simpa using hs)
    rw [show j+1+i=j+(i+1) by omega] at this
    exact this
  ·intro g hg;simp only [zh1,Loc.upd_append]
   rw [k4 g (fun i els sz' hd hs=>by
    have:=hg (i+1) els sz' (by simpa using hd) (by simpa using hs)
    rwa [show j+(i+1)=j+1+i by omega] at this)]
   by_cases hg0:g=t+1000*(j+1)
   ·by_cases ho:∃ els,d=.sl .own els
    ·obtain ⟨els,rfl⟩:=ho
     exact absurd hg0 (hg 0 els sz (by simp) (by simp))
    ·have:r=(.d d,[]):=zlR fun els e=>ho ⟨els,e⟩
     rw [this]; rfl
   ·exact hwr g hg0
theorem zgP.not_own {A:Nat→Prop} {γ β sz} {d:D} {u:Value} (h:zgP w A N γ β sz d u) (hn:∀ els,d≠.sl .own els):β=none∧Rep w A N γ d u:=by
 unfold zgP at h;split at h
 ·rename_i els; exact absurd rfl (hn els)
 ·exact h
theorem zma.out {w:World} {A A':Nat→Prop} {N N':Nat} {γ β sz els} (h:zma w A N γ β sz els) (hA:∀ b,A' b→A b) (hN:N'≤N):zma w A' N' γ β sz els:=by
 cases β with
 | none=>exact h
 | some b=>
  obtain ⟨x,T,fz,r1,r2,r3,vs,r4⟩:=h
  exact ⟨x,T,fz,r1,r2,r3,vs,fun i d hd=>⟨((r4 i d hd).1).out hA hN,(r4 i d hd).2⟩⟩
theorem zxi {w':World} {A:Nat→Prop} {Nn:Nat} {γ':Nat→Nat→Option Nat} {t:Nat} {szs:List Nat} {r:D} {v:Value} {vv:V} {wra:Wr} (hN:N≤Nn)
    (ha:zri Lr t szs r=some (vv,wra)) (hLr:∀ i,i≤4→Lr (t+1000*i)=L (t+1000*i)) (hr:zo9 w' A Nn γ' szs r v):
    ∃ ad:Nat→Option (Nat×List D×Option Nat),(∀ g p,ad g=some p→∀ Lb:Loc,(Lb.upd wra) g=(L.new g,.arr p.1 p.2.1 true))∧(∀ g,ad g=none→∀ Lb:Loc,(Lb.upd wra) g=Lb g)∧
      (∀ g p,ad g=some p→∃ i,i≤4∧g=t+1000*i)∧(∀ g sz els b,ad g=some (sz,els,some b)→b < w'.heap.size∧¬ A b)∧
      (∀ g g' sz els sz' els' b,ad g=some (sz,els,some b)→ad g'=some (sz',els',some b)→g=g')∧
      (∀ g sz els β,ad g=some (sz,els,β)→zma w' (fun b=>A b∨∃ g sz els,ad g=some (sz,els,some b)) N γ' β sz els)∧
      ∀ (c':Ctx) (L':Loc),(∀ g p,ad g=some p→c'.ι g=p.2.2∧L' g=(L.new g,.arr p.1 p.2.1 true))→c'.γ=γ'→(∀ b,own c' L' b→A b∨∃ g sz els,ad g=some (sz,els,some b))→Val c' L' w' N vv v:=by
  obtain ⟨ow,o1,o2,o3⟩:=hr
  by_cases htup:∃ ds,r=.tup ds
  · obtain ⟨ds,rfl⟩:=htup
    simp only [zri] at ha
    split at ha
    rotate_left
    · cases ha
    rename_i hlen
    obtain ⟨hlen,hle4⟩:=hlen
    injection ha with ha
    injection ha with ha1 ha2
    subst ha1; subst ha2
    obtain ⟨vs,rfl,q1,_,q3⟩:=o3
    have hsp:=fun Lb=>zrz (L:=Lr) (t:=t) szs ds 0 Lb hlen
    obtain ⟨k1,k2,_,_⟩:=hsp L
    let idx:Nat→Nat:=fun g=>(g - t) / 1000 - 1
    have hidx:∀ i,idx (t+1000*(i+1))=i:=by intro i; simp only [idx]; omega
    let ad:Nat→Option (Nat×List D×Option Nat):=fun g=>if g=t+1000*(idx g+1) then
      (match ds[idx g]?,szs[idx g]? with
       | some (.sl .own els),some sz=>some (sz,els,ow (idx g))
       | _,_=>none) else none
    have had:∀ g sz els β,ad g=some (sz,els,β)→∃ i,i < 4∧g=t+1000*(i+1)∧ds[i]? =some (.sl .own els)∧szs[i]? =some sz∧β=ow i:=by
      intro g sz els β h
      simp only [ad] at h
      split at h
      · rename_i hg
        split at h
        · rename_i els' sz' h1 h2
          injection h with h; injection h with h3 h4; injection h4 with h4 h5
          subst h3; subst h4; subst h5
          have:=za3 h1
          exact ⟨idx g,by omega,hg,h1,h2,rfl⟩
        · cases h
      · cases h
    have had':∀ i els sz,ds[i]? =some (.sl .own els)→szs[i]? =some sz→ad (t+1000*(i+1))=some (sz,els,ow i):=by
      intro i els sz h1 h2
      simp only [ad,hidx,if_true,h1,h2]
    have hnew:∀ i,i < 4→Lr.new (t+1000*(i+1))=L.new (t+1000*(i+1)):=fun i hi=>by unfold Loc.new; rw [hLr _ (by omega)]
    have comp:∀ (i:Nat) (els:List D) (sz:Nat),ds[i]? =some (.sl .own els)→szs[i]? =some sz→∃ u,vs[i]? =some u∧zgP w' (fun b=>A b∨∃ i,ow i=some b) Nn γ' (ow i) sz (.sl .own els) u:=by
      intro i els sz h1 h2
      have hi:i < vs.size:=by have:=za3 h1; omega
      exact ⟨vs[i],Array.getElem?_eq_getElem hi,q3 i _ _ _ h1 (Array.getElem?_eq_getElem hi) h2⟩
    have hsub:∀ b,(A b∨∃ g sz els,ad g=some (sz,els,some b))→(A b∨∃ i,ow i=some b):=by
      rintro b (h | ⟨g,sz,els,h⟩)
      · exact .inl h
      · obtain ⟨i,_,_,_,_,h6⟩:=had g sz els _ h
        exact .inr ⟨i,h6.symm⟩
    refine ⟨ad,fun g p hp Lb=>?_,fun g hg Lb=>?_,fun g p hp=>?_,fun g sz els b h=>?_,fun g g' sz els sz' els' b h h'=>?_,fun g sz els β h=>?_,fun c' L' hc hγ hown=>?_⟩
    · obtain ⟨sz,els,β⟩:=p
      obtain ⟨i,hi,rfl,h1,h2,_⟩:=had g sz els β hp
      have:=(hsp Lb).2.2.1 i els sz h1 h2
      rw [Nat.zero_add] at this
      rw [this,hnew i hi]
    · refine (hsp Lb).2.2.2 g fun i els sz h1 h2 e=>?_
      rw [Nat.zero_add] at e
      rw [e,had' i els sz h1 h2] at hg; cases hg
    · obtain ⟨sz,els,β⟩:=p
      obtain ⟨i,hi,rfl,_⟩:=had g sz els β hp
      exact ⟨i+1,by omega,rfl⟩
    · obtain ⟨i,_,_,h4,h5,h6⟩:=had g sz els _ h
      exact o2 i b h6.symm
    · obtain ⟨i,_,hg,_,_,h6⟩:=had g sz els _ h
      obtain ⟨i',_,hg',_,_,h6'⟩:=had g' sz' els' _ h'
      have:=o1 i i' b h6.symm h6'.symm
      rw [hg,hg',this]
    · obtain ⟨i,_,_,h4,h5,rfl⟩:=had g sz els _ h
      obtain ⟨u,_,hc⟩:=comp i els sz h4 h5
      exact (hc.2).out hsub hN
    · refine .tup _ _ (by rw [k1]; exact q1) fun i x u hx hu=>?_
      have hi:i < ds.length:=by have:=zdd hu; omega
      have hd:ds[i]? =some ds[i]:=List.getElem?_eq_getElem hi
      have hsz:szs[i]? =some (szs[i]'(by omega)):=List.getElem?_eq_getElem (by omega)
      have hx':=k2 i _ _ hd hsz
      rw [hx] at hx'
      injection hx' with hx'
      have hcomp:=q3 i _ u _ hd hu hsz
      rw [Nat.zero_add] at hx'
      by_cases ho:∃ els,ds[i]=.sl .own els
      · obtain ⟨els,hels⟩:=ho
        rw [hels] at hx' hcomp hd
        simp only [zgr] at hx'
        subst hx'
        have h1:=had' i els _ hd hsz
        obtain ⟨e1,e2⟩:=hc _ _ h1
        rw [hnew i (by omega)]
        have hget:L'.get (t+1000*(i+1)) (L.new (t+1000*(i+1)))=.arr (szs[i]'(by omega)) els true:=by unfold Loc.get; rw [e2]; simp
        refine .ref _ _ _ _ _ (by rw [e2]; exact Nat.le_refl _) (fun sz' els' l' hg=>?_) (fun sz' els' hg=>?_)
        · rw [hget] at hg
          cases hg
          exact ⟨by omega,by rw [e1]; exact hcomp.1⟩
        · rw [hget] at hg; cases hg
      · rw [zlR fun els e=>ho ⟨els,e⟩] at hx'
        subst hx'
        refine .d _ _ ?_
        rw [hγ]
        exact (((hcomp.not_own fun els e=>ho ⟨els,e⟩).2).out (fun b h=>hsub b (hown b h)) hN)
  · have o3':∃ sz,szs=[sz]∧zgP w' (fun b=>A b∨∃ i,ow i=some b) Nn γ' (ow 0) sz r v:=by
      cases r<;>first | exact o3 | exact absurd ⟨_,rfl⟩ htup
    obtain ⟨sz,rfl,hc⟩:=o3'
    have ha':zgr Lr t sz r=(vv,wra):=by
      cases r<;>first | (simp only [zri] at ha; injection ha) | exact absurd ⟨_,rfl⟩ htup
    have hL0:Lr.new t=L.new t:=by have:=hLr 0 (by omega); simp at this; unfold Loc.new; rw [this]
    by_cases ho:∃ els,r=.sl .own els
    · obtain ⟨els,rfl⟩:=ho
      simp only [zgr] at ha'
      injection ha' with h1 h2
      subst h1; subst h2
      let ad:Nat→Option (Nat×List D×Option Nat):=fun g=>if g=t then some (sz,els,ow 0) else none
      have had:∀ g sz' els' β,ad g=some (sz',els',β)→g=t∧sz'=sz∧els'=els∧β=ow 0:=by
        intro g sz' els' β h
        simp only [ad] at h
        split at h
        · injection h with h; injection h with h3 h4; injection h4 with h4 h5
          exact ⟨by assumption,h3.symm,h4.symm,h5.symm⟩
        · cases h
      have hadt:ad t=some (sz,els,ow 0):=by simp [ad]
      have hsub:∀ b,(A b∨∃ g sz els,ad g=some (sz,els,some b))→(A b∨∃ i,ow i=some b):=by
        rintro b (h | ⟨g,sz,els,h⟩)
        · exact .inl h
        · exact .inr ⟨0,(had _ _ _ _ h).2.2.2.symm⟩
      rw [hL0]
      refine ⟨ad,fun g p hp Lb=>?_,fun g hg Lb=>?_,fun g p hp=>?_,fun g sz els b h=>?_,fun g g' _ _ _ _ b h h'=>by rw [(had _ _ _ _ h).1,(had _ _ _ _ h').1],fun g sz' els' β h=>?_,fun c' L' hc' hγ hown=>?_⟩
      · obtain ⟨sz',els',β⟩:=p
        obtain ⟨rfl,rfl,rfl,rfl⟩:=had _ _ _ _ hp
        simp only [Loc.upd,Loc.set_same]
      · have:g≠t:=by rintro rfl; rw [hadt] at hg; cases hg
        simp only [Loc.upd,Loc.set_ne _ _ this]
      · obtain ⟨sz',els',β⟩:=p
        exact ⟨0,by omega,by rw [(had _ _ _ _ hp).1]; simp⟩
      · exact o2 0 b (had _ _ _ _ h).2.2.2.symm
      · obtain ⟨_,rfl,rfl,rfl⟩:=had _ _ _ _ h
        exact (hc.2).out hsub hN
      · obtain ⟨e1,e2⟩:=hc' _ _ hadt
        have hget:L'.get t (L.new t)=.arr sz els true:=by unfold Loc.get; rw [e2]; simp
        refine .ref _ _ _ _ _ (by rw [e2]; exact Nat.le_refl _) (fun sz' els' l' hg=>?_) (fun sz' els' hg=>?_)
        · rw [hget] at hg
          cases hg
          exact ⟨by omega,by rw [e1]; exact hc.1⟩
        · rw [hget] at hg; cases hg
    · rw [zlR fun els e=>ho ⟨els,e⟩] at ha'
      injection ha' with h1 h2
      subst h1; subst h2
      refine ⟨fun _=>none,by simp,fun _ _ _=>rfl,by simp,by simp,by simp,by simp,fun c' L' _ hγ hown=>.d _ _ ?_⟩
      rw [hγ]
      exact (((hc.not_own fun els e=>ho ⟨els,e⟩).2).out (fun b h=>by
        rcases hown b h with h | ⟨_,_,_,h⟩
        · exact .inl h
        · cases h) hN)
theorem zCk (hm:Mem c N w0 O0 L w) (hs:Sees Lr L) {pms:List (PM×Nat)} {ks:List (Nat×Bool)} {vs:List V} {us:List Value} {ds:List D} {ms:List (Nat×Nat×Nat×Nat)} {kl wo:Wr} {Ts tbs:List Tb} {outs:List (List D)}
  (hg:znO (ksW ks) Lr pms vs=some (ds,ms,kl)) (hok:zmD Lr pms [] vs=true) (hv:Vals c L w N vs us) (hT:zj7 Lr ks=some Ts) (hnd:(ks.map (·.1)).Nodup) (hwo:zj8 ms outs=some wo) (htl:tbs.length=(ksW ks).length)
  {t:Nat} (ht0:t < 90000) {szs:List Nat} {r:D} {v:Value} {vv:V} {wra:Wr} (ha:zri Lr t szs r=some (vv,wra)) (hLr:∀ i,i≤4→Lr (t+1000*i)=L (t+1000*i)) (hLt:∀ k∈ksW ks,Lr (tb k)=L (tb k))
  {w':World} {γ':Nat→Nat→Option Nat} {ρ':Nat→Nat→Nat→Option Nat} {O':Nat→Prop}
  (hturn:Turned w w' c.γ γ' c.ρ ρ' (Ows c L (· ∈ksW ks)) O' pms (gvOf c pms vs) ks ds Ts (zdK ks Ts tbs) outs szs r v):
  Did c N w0 O0 L w { v:=vv,wr:=kl++wo++zh2 Lr (ksW ks) tbs++wra } v w':=by
 obtain ⟨t1,t2⟩:=zjw hT
 have hTL:∀ (j k:Nat) (wr:Bool) (T:Tb),ks[j]? =some (k,wr)→Ts[j]? =some T→∃ wr0,za6 L k=some (wr0,T)∧(wr=true→wr0=true):=fun j k wr T h1 h2=>by
  obtain ⟨wr0,h3,h4⟩:=t2 j k wr T h1 h2;exact ⟨wr0,(hs.tab h3).1,h4⟩
 have hW:∀ k,k∈ksW ks→∃ T,za6 L k=some (true,T):=fun k hk=>by
  obtain ⟨j,hj,e⟩:=List.mem_iff_getElem.1 (zil.1 hk)
  obtain ⟨wr0,h3,h4⟩:=hTL j k true (Ts[j]'(by omega)) (by rw [←e]; simp) (by simp)
  rw [h4 rfl] at h3;exact ⟨_,h3⟩
 obtain ⟨g1,g2,g3⟩:=zCj hm hs hg hok hv hW;obtain ⟨q1,q2,q3,q4⟩:=zlQ hg;obtain ⟨u1,u2⟩:=zry hwo;obtain ⟨n1,n2,n3⟩:=zh7 (L:=Lr) (Ts:=Ts) ((L.upd kl).upd wo) hnd t1 htl;obtain ⟨ad,d1,d2,d3,d4,d5,d6,d7⟩:=zxi (L:=L) hm.size ha hLr hturn.res;have hgok:=zmZ hok
 have argOf:∀ (i:Nat) (u:V) (d:D),vs[i]? =some u→ds[i]? =some d→(pmAt pms i).1≠.lent→∀ m k,zki (ksW ks) Lr (pmAt pms i) u=some (d,m,k)→
   ∀ g,(g∈k.map (·.1)∨g∈m.map (·.1))→g∈u.ids:=by
  intro i u d hu hd hp m k h g hgk;rcases zhn hp h with ⟨g',n,len,els,e,_,_,_,_,_,h'⟩ | ⟨_,_,_,rfl,rfl⟩
  ·subst e;rcases h' with ⟨_,rfl,rfl⟩ | ⟨_,rfl,rfl⟩<;>simp at hgk<;>subst hgk<;>simp [V.ids]
  ·simp at hgk
 have lentNo:∀ (i:Nat) (u:V) (d:D) m k,zki (ksW ks) Lr (pmAt pms i) u=some (d,m,k)→(pmAt pms i).1=.lent→m=[]∧k=[]:=by
  intro i u d m k h hp;generalize pmAt pms i=pm at h hp;obtain ⟨p,sz⟩:=pm;simp at hp; subst hp;simp only [zki] at h
  cases hl:lend (ksW ks) Lr u with
  | none=>rw [hl] at h; cases h
  | some z=>rw [hl] at h; simp at h; exact ⟨h.2.1,h.2.2⟩
 have hkl:∀ p∈kl,∃ (i g n len:Nat) (els:List D),(pmAt pms i).1=.own∧vs[i]? =some (.ref g n 0 len)∧L.get g n=.arr (pmAt pms i).2 els true∧p=(g,((L g).1,.dead)):=by
  intro p hp;obtain ⟨i,u,d,m,k,a1,a2,a3,a4⟩:=q3 p hp
  have hpl:(pmAt pms i).1≠.lent:=fun h=>by rw [(lentNo i u d m k a3 h).2] at a4; cases a4
  rcases zhn hpl a3 with ⟨g',n,len,els,rfl,b1,b2,_,_,_,h'⟩ | ⟨_,_,_,_,rfl⟩
  ·rcases h' with ⟨c1,rfl,rfl⟩ | ⟨_,_,rfl⟩
   ·simp at a4; subst a4
    have hL:=hs g' n (by rw [b1]; simp)
    rw [b1] at hL
    exact ⟨i,g',n,len,els,c1,a1,hL,by rw [(zbM hL (by simp)).1]⟩
   ·cases a4
  ·cases a4
 have hkd:=zq0 (kl:=kl) (L:=L) fun p hp=>by
  obtain ⟨i,g,n,len,els,_,_,_,rfl⟩:=hkl p hp; rfl
 have hwoAt:∀ (j:Nat) (p:Nat×(Nat×HObj)),wo[j]? =some p→∃ (i g n len:Nat) (els els':List D),j=zcT pms i∧(pmAt pms i).1=.mut∧vs[i]? =some (.ref g n 0 len)∧ds[i]? =some (.sl .own els)∧L.get g n=.arr (pmAt pms i).2 els true∧els'.length=els.length∧
   outs[zcT pms i]? =some els'∧p=(g,((L g).1,.arr (pmAt pms i).2 els' true)):=by
  intro j p hp
  have hj:j < ms.length:=by have:=za3 hp; omega
  obtain ⟨⟨g0,n0,sz0,len0⟩,hms⟩:∃ x,ms[j]? =some x:=⟨ms[j],by simp⟩
  obtain ⟨els',e1,e2,e3⟩:=u2 j g0 n0 sz0 len0 hms;rw [hp] at e3;injection e3 with e3;obtain ⟨i,u,d,m,k,a1,a2,a3,a4,a5,a6⟩:=q4 j _ hms
  rcases zhn (by rw [a6]; simp) a3 with ⟨g',n,len,els,rfl,b1,b2,_,_,b5,h'⟩ | ⟨c1,_⟩
  ·rcases h' with ⟨c1,_⟩ | ⟨_,rfl,_⟩
   ·rw [a6] at c1; cases c1
   ·simp at a4;obtain ⟨rfl,rfl,rfl,rfl⟩:=a4
    have hL:=hs g0 n0 (by rw [b1]; simp)
    rw [b1] at hL
    exact ⟨i,g0,n0,len0,els,els',a5,a6,a1,by rw [a2,b5],hL,by omega,by rw [←a5]; exact e1,by rw [e3,(zbM hL (by simp)).1]⟩
  ·rw [a6] at c1; cases c1
 have hwnd:(wo.map (·.1)).Nodup:=by
  refine List.pairwise_iff_getElem.2 fun a b ha' hb hab e=>?_
  simp only [List.length_map] at hb ha'
  have h1:wo[a]? =some (wo[a]'(by omega)):=by simp
  have h2:wo[b]? =some (wo[b]'(by omega)):=by simp
  obtain ⟨i,g,n,len,els,els',x1,x2,x3,_,_,_,_,x4⟩:=hwoAt a _ h1;obtain ⟨i',g',n',len',els2,els2',y1,y2,y3,_,_,_,_,y4⟩:=hwoAt b _ h2;rw [List.getElem_map,List.getElem_map,x4,y4] at e;simp at e; subst e
  by_cases hii:i=i'
  ·subst hii; omega
  ·exact (hgok i _ x3 (by rw [x2]; simp)).2 i' _ (Ne.symm hii) y3 g (by simp [V.ids]) (zkI (by simp [V.idsL,V.ids]))
 have hwk:∀ g,g∈wo.map (·.1)→g ∉ kl.map (·.1):=by
  intro g h1 h2;obtain ⟨p,hp,rfl⟩:=List.mem_map.1 h1;obtain ⟨p',hp',e⟩:=List.mem_map.1 h2;obtain ⟨j,hj,rfl⟩:=List.mem_iff_getElem.1 hp;obtain ⟨i,g,n,len,els,els',x1,x2,x3,_,_,_,_,x4⟩:=hwoAt j _ (List.getElem?_eq_getElem hj);obtain ⟨i',g',n',len',els2,y2,y3,_,y4⟩:=hkl p' hp';rw [x4,y4] at e;simp at e; subst e
  have hii:i≠i':=by rintro rfl; rw [x2] at y2; cases y2
  exact (hgok i _ x3 (by rw [x2]; simp)).2 i' _ (Ne.symm hii) y3 g' (by simp [V.ids]) (zkI (by simp [V.idsL,V.ids]))
 have hltab:∀ (g n sz:Nat) (els:List D),L.get g n=.arr sz els true→∀ k,g≠tb k:=fun g n sz els h k e=>(hm.live_tab (by rw [(zbM h (by simp)).2]; rfl) k) e.symm
 let L':Loc:=L.upd (kl++wo++zh2 Lr (ksW ks) tbs++wra)
 have hL'e:L'=(((L.upd kl).upd wo).upd (zh2 Lr (ksW ks) tbs)).upd wra:=by simp only [L',Loc.upd_append]
 have hL':∀ g,(∃ p,ad g=some p∧L' g=(L.new g,.arr p.1 p.2.1 true))∨(ad g=none∧((L' g=L g∧∀ b,c.ι g=some b→(L g).2≠.dead→¬ Gv (gvOf c pms vs) b)∨L' g=((L g).1,.dead)∨
   (∃ sz els els',(L g).2=.arr sz els true∧L' g=((L g).1,.arr sz els' true)∧els'.length=els.length∧els'.all D.flatEl=true∧zma w' (fun _=>False) 0 γ' (c.ι g) sz els')∨
   ∃ k wr T T',g=tb k∧(L g).2=.tbl wr T∧L' g=(L.new g,.tbl wr T'))):=by
  intro g
  cases hag:ad g with
  | some p=>exact .inl ⟨p,rfl,by rw [hL'e]; exact d1 g p hag _⟩
  | none=>
   refine .inr ⟨rfl,?_⟩;rw [hL'e,d2 g hag]
   by_cases hk:∃ k∈ksW ks,g=tb k
   ·obtain ⟨k,hk,rfl⟩:=hk;obtain ⟨T',a1,a2⟩:=n2 k hk;obtain ⟨T,hT0⟩:=hW k hk;refine .inr (.inr (.inr ⟨k,true,T,T',rfl,zed.1 hT0,?_⟩));rw [a2];unfold Loc.new; rw [hLt k hk]
   ·rw [n3 g fun k hk' e=>hk ⟨k,hk',e⟩]
    by_cases hw:g∈wo.map (·.1)
    ·obtain ⟨p,hp,rfl⟩:=List.mem_map.1 hw;obtain ⟨j,hj,rfl⟩:=List.mem_iff_getElem.1 hp
     have hwj:wo[j]? =some wo[j]:=by simp
     obtain ⟨i,g,n,len,els,els',x1,x2,x3,x5,x6,x7,x8,x4⟩:=hwoAt j _ hwj;have hup:=zGz (L:=L.upd kl) hwnd (g:=(wo[j]).1) (x:=(wo[j]).2) (List.mem_of_getElem? hwj);refine .inr (.inr (.inl ?_));rw [hup,x4]
     obtain ⟨_,e2⟩:=zbM x6 (by simp)
     have hgv:gvOf c pms vs i=c.ι g:=by unfold gvOf; rw [if_neg (by rw [x2]; simp),x3]
     obtain ⟨f1,f2⟩:=hturn.outs i (pmAt pms i).2 els els' (Prod.ext x2 rfl) x5 x8 x7;rw [hgv] at f2;exact ⟨_,els,els',e2,rfl,x7,f1,f2⟩
    ·rw [zrw hw,hkd]
     by_cases hkk:g∈kl.map (·.1)
     ·rw [if_pos hkk]; exact .inr (.inl rfl)
     ·rw [if_neg hkk]
      refine .inl ⟨rfl,fun b hb hd hgv=>?_⟩
      obtain ⟨i,g',n,len,els,a1,a2,a3,a4,a5,a6,a7⟩:=g1 b hgv
      obtain ⟨e1,e2⟩:=zbM a6 (by simp)
      have:=hm.inj g g' b hb a4 hd (by rw [e2]; simp)
      subst this
      have hi:i < ds.length:=by have:=za3 a1; omega
      obtain ⟨m,k,b1,b2,b3⟩:=q2 i _ ds[i] a1 (by simp)
      rcases zhn a2 b1 with ⟨g'',n',len',els',e,_,_,_,_,_,h'⟩ | ⟨_,e,_⟩
      ·cases e;rcases h' with ⟨_,_,rfl⟩ | ⟨hmut,rfl,_⟩
       ·exact hkk (List.mem_map.2 ⟨_,b2 (g,(n,.dead)) (by simp),rfl⟩)
       ·have h8:=b3 hmut (g,n,(pmAt pms i).2,len) (by simp)
        obtain ⟨els2,_,_,h9⟩:=u2 _ _ _ _ _ h8;exact hw (List.mem_map.2 ⟨_,List.mem_of_getElem? h9,rfl⟩)
      ·rcases e with e | e<;>cases e
 have hGlive:∀ b,Gv (gvOf c pms vs) b→∃ g,c.ι g=some b∧(L g).2≠.dead:=fun b h=>by
  obtain ⟨i,g,n,len,els,a1,a2,a3,a4,a5,a6,a7⟩:=g1 b h
  exact ⟨g,a4,by rw [(zbM a6 (by simp)).2]; simp⟩
 have hadtb:∀ k,ad (tb k)=none:=fun k=>by
  cases h:ad (tb k) with
  | none=>rfl
  | some p=>
   obtain ⟨i,h1,h2⟩:=d3 _ _ h;unfold tb at h2; omega
 have hOb:∀ b,OwnG pms (gvOf c pms vs) b→Gv (gvOf c pms vs) b:=fun b ⟨i,_,h⟩=>⟨i,h⟩
 have hN':∀ k,k ∉ ksW ks→L' (tb k)=L (tb k):=by
  intro k hk
  rw [hL'e,d2 _ (hadtb k),n3 _ (fun k' hk' e=>hk (by rw [zfq e]; exact hk')),zrw,hkd,if_neg]
  ·intro h;obtain ⟨p,hp,e⟩:=List.mem_map.1 h;obtain ⟨i,g,n,len,els,_,_,h3,rfl⟩:=hkl p hp;exact hltab _ _ _ _ h3 k e
  ·intro h;obtain ⟨p,hp,e⟩:=List.mem_map.1 h;obtain ⟨j,hj,rfl⟩:=List.mem_iff_getElem.1 hp;obtain ⟨i,g,n,len,els,els',x1,x2,x3,x5,x6,x7,x8,x4⟩:=hwoAt j _ (List.getElem?_eq_getElem hj);rw [x4] at e;exact hltab _ _ _ _ x6 k e
 have htab:=zz8 (ad:=ad) hm hturn.more (W:=(· ∈ksW ks)) (fun k hk=>hturn.same k hk) hOb hGlive hturn.osub hturn.kept hturn.tab (L':=L') (fun k hk=>by
   obtain ⟨T,a1,a2⟩:=n2 k hk;refine ⟨T,a1,?_⟩;unfold za6
   rw [hL'e,d2 _ (hadtb k),a2]) (fun k hk=>zby (hN' k hk))
 obtain ⟨m1,m2,m3⟩:=zCi (ad:=ad) (L':=L') hm hturn.more (Gb:=Gv (gvOf c pms vs)) (Ob:=OwnG pms (gvOf c pms vs)) (Ow:=Ows c L (· ∈ksW ks)) (O':=O') (ρ':=ρ')
  (fun k i o e=>by
   by_cases hk:k∈ksW ks
   ·exfalso;rw [hL'e,d2 _ (hadtb k)] at e;obtain ⟨T,a1,a2⟩:=n2 k hk;rw [a2] at e;simp [Loc.new,hLt k hk] at e
   ·rw [(hturn.same k hk).2])
  (fun k h=>hturn.same k fun hk=>by obtain ⟨T,hT'⟩:=hW k hk; exact h T hT')
  (fun b h=>h.sub hm hW) (fun b h=>by
   obtain ⟨i,g,n,len,els,a1,a2,a3,a4,a5,a6,a7⟩:=g1 b h
   exact ⟨g,a4,a5,_,_,(zbM a6 (by simp)).2⟩) hOb
  (fun b g hob hb hd hag=>by
   obtain ⟨i,hi,hgi⟩:=hob;obtain ⟨i',g',n,len,els,a1,a2,a3,a4,a5,a6,a7⟩:=g1 b ⟨i,hgi⟩;have hii:=g2 i i' b hgi a3;subst hii
   obtain ⟨e1,e2⟩:=zbM a6 (by simp)
   have:=hm.inj g g' b hb a4 hd (by rw [e2]; simp)
   subst this
   have hi':i < ds.length:=by have:=za3 a1; omega
   obtain ⟨m,k,b1,b2,b3⟩:=q2 i _ ds[i] a1 (by simp)
   have hin:g∈kl.map (·.1):=by
    rcases zhn a2 b1 with ⟨g'',n',len',els',e,_,_,_,_,_,h'⟩ | ⟨_,e,_⟩
    ·cases e;rcases h' with ⟨_,_,rfl⟩ | ⟨hmut,_⟩
     ·exact List.mem_map.2 ⟨_,b2 (g,(n,.dead)) (by simp),rfl⟩
     ·rw [hi] at hmut; cases hmut
    ·rcases e with e | e<;>cases e
   rw [hL'e,d2 g hag,n3 _ (fun k' hk'=>hltab _ _ _ _ a6 k'),zrw (fun h=>hwk g h hin),hkd,if_pos hin])
  hturn.osub hturn.kept hL' (fun g sz els b h=>by
   obtain ⟨x1,x2⟩:=d4 g sz els b h
   refine ⟨?_,x1,fun h=>x2 (.inr h)⟩
   by_cases hob:OwnG pms (gvOf c pms vs) b
   ·exact .inr hob
   ·refine .inl ?_;rcases Nat.lt_or_ge b w.heap.size with h' | h'
    ·exact absurd (.inl ⟨h',hob⟩) x2
    ·exact h')
  d5 (fun g sz els β h=>d6 g sz els β h) hadtb htab
 refine ⟨_,m1,m2,d7 _ _ (fun g p h=>⟨zrx h,?_⟩) rfl m3⟩
 rcases hL' g with ⟨p',h1,h2⟩ | ⟨h1,_⟩
 ·rw [h] at h1; cases h1; exact h2
 ·rw [h] at h1; cases h1
end
end Wf

namespace Wf
open Go Go.RowKit
theorem zz9 {P:Program} {w:World} {A N γ} {eq:TypeId→D→D→Option Bool} {d:Nat} (heq:∀ t x y r u v,eq t x y=some r→Rep w A N γ x u→Rep w A N γ y v→(Op.equalIn d t u v).run P w=.ok r w)
  {xs ys:List D} {us vs:Array Value} (hx:Rep w A N γ (.agg xs) (.agg us)) (hy:Rep w A N γ (.agg ys) (.agg vs)):∀ (fs:List Field) (r:Bool),zAW P eq xs ys fs=some r→(Op.eqFields d us vs fs).run P w=.ok r w
 | [],r,h=>by simp [zAW] at h; subst h; simp [Op.eqFields]
 | f::fs,r,h=>by
  unfold zAW at h;split at h
  ·cases h
  ·rename_i hname;split at h
   rotate_left
   ·cases h
   rename_i ag n hag hn;split at h
   rotate_left
   ·cases h
   rename_i x y hpx hpy
   cases he:eq f.type x y with
   | none=>rw [he] at h; cases h
   | some r1=>
    rw [he] at h;simp only [Option.bind_some] at h
    cases hr:zAW P eq xs ys fs with
    | none=>rw [hr] at h; cases h
    | some r2=>
     rw [hr] at h;simp at h; subst h
     have part1:∀ {zs:List D} {ws:Array Value} {z:D},Rep w A N γ (.agg zs) (.agg ws)→zhe ag n f.offset zs=some z→∃ u,(part f.type ws f.offset).run P w=.ok u w∧Rep w A N γ z u:=by
      intro zs ws z hz hp
      cases hz with
      | agg _ _ q1 q2 q3=>
       obtain ⟨v,r1,r2,_⟩:=zh3 hp q1 (fun i d u hd hu=>⟨q2 i d u hd hu,q3 i u hu⟩)
       refine ⟨v,zq1 hag hn ?_,r1⟩
       cases ag with
       | true=>simp at r2; simp [r2.1]
       | false=>simp at r2; simpa using r2.1
     obtain ⟨u,p1,p2⟩:=part1 hx hpx;obtain ⟨v,p3,p4⟩:=part1 hy hpy;have h1:=heq _ _ _ _ _ _ he p2 p4;have h2:=zz9 heq hx hy fs r2 hr;simp only [Op.eqFields,ne_eq,hname,not_false_eq_true,if_true,Sem.run_bind,p1,p3,h1,Result.andThen_ok];cases r1
     ·simp
     ·simp [h2]
theorem zCl {P:Program} {w:World} {A N γ}:∀ (d k:Nat) (t:TypeId) (x y:D) (r:Bool) (u v:Value),aeq P d t x y=some r→Rep w A N γ x u→Rep w A N γ y v→(Op.equalIn (d+k) t u v).run P w=.ok r w
 | 0,_,_,_,_,_,_,_,h,_,_=>by cases h
 | d+1,k,t,x,y,r,u,v,h,hx,hy=>by
  unfold aeq at h
  rw [show d+1+k=(d+k)+1 by omega]
  split at h
  ·rename_i k0 hu;split at h
   ·split at h
    ·rename_i hk;injection h with h; subst h; subst hk;cases hx; cases hy;exact run_equalIn_int w _ t _ _ _ _ hu
    ·cases h
   ·cases h
  ·rename_i hu;split at h
   ·injection h with h; subst h;cases hx; cases hy;exact run_equalIn_bool' w _ t _ _ hu
   ·cases h
  ·rename_i fs hu;split at h
   ·split at h
    ·cases h
    ·rename_i hst
     cases hx with
     | agg _ us a1 a2 a3=>
     cases hy with
     | agg _ vs b1 b2 b3=>
      have hf:P.fieldsOf t=fs:=by unfold Program.fieldsOf; rw [hu]
      rw [run_equalIn_struct w (d+k) t us vs (by rw [hf]; exact hu) (by simpa using hst),hf]
      exact zz9 (fun t x y r u v h hx hy=>zCl d k t x y r u v h hx hy) (.agg _ _ a1 a2 a3) (.agg _ _ b1 b2 b3) _ _ h
   ·cases h
  ·cases h
theorem zGA {P:Program} {w:World} {A N γ} {op:BinOp} {a b d:D} {u v:Value} {t:TypeId} {x y:Operand} (h:abin (zrf P t) op a b=some d) (ha:Rep w A N γ a u) (hb:Rep w A N γ b v):
  ∃ z,(do eqGuard op t x y u v; binOp op t u v:Sem Value).run P w=.ok z w∧Rep w A N γ d z:=by
 have ints:∀ {k:IntKind} {p q:Int},ibin op k p q=some d→∃ z,(do eqGuard op t x y (.int k p) (.int k q); binOp op t (.int k p) (.int k q):Sem Value).run P w=.ok z w∧Rep w A N γ d z:=by
  intro k p q h
  have hg:(eqGuard op t x y (.int k p) (.int k q)).run P w=.ok () w:=by rw [eqGuard_at_int]; rfl
  simp only [Sem.run_bind,hg,Result.andThen_ok];cases op<;>simp [ibin] at h
  case quo=>obtain ⟨h0,rfl⟩:=h; exact ⟨_,by simp [binOp_quo,Op.intDiv,h0],.int _ _⟩
  case rem=>obtain ⟨h0,rfl⟩:=h; exact ⟨_,by simp [binOp_rem,Op.intDiv,h0],.int _ _⟩
  case add=>subst h; exact ⟨_,by simp [binOp_add,Op.intArith],.int _ _⟩
  case sub=>subst h; exact ⟨_,by simp [binOp_sub,Op.intArith],.int _ _⟩
  case mul=>subst h; exact ⟨_,by simp [binOp_mul,Op.intArith],.int _ _⟩
  case and=>subst h; exact ⟨_,by rw [binOp_and,intBits_and]; rfl,.int _ _⟩
  case or=>subst h; exact ⟨_,by rw [binOp_or,intBits_or]; rfl,.int _ _⟩
  case xor=>subst h; exact ⟨_,by rw [binOp_xor,intBits_xor]; rfl,.int _ _⟩
  case andNot=>subst h; exact ⟨_,by rw [binOp_andNot,intBits_andNot]; rfl,.int _ _⟩
  case eql=>subst h; exact ⟨_,by rw [binOp_eql]; rfl,.bool _⟩
  case neq=>subst h; exact ⟨_,by rw [binOp_neq]; rfl,.bool _⟩
  case lss=>subst h; exact ⟨_,by rw [binOp_lss]; rfl,.bool _⟩
  case leq=>subst h; exact ⟨_,by rw [binOp_leq]; rfl,.bool _⟩
  case gtr=>subst h; exact ⟨_,by rw [binOp_gtr]; rfl,.bool _⟩
  case geq=>subst h; exact ⟨_,by rw [binOp_geq]; rfl,.bool _⟩
 have shifts:∀ {k k':IntKind} {p q:Int},zwO op k p q=some d→(op=.shl∨op=.shr)→∃ z,(do eqGuard op t x y (.int k p) (.int k' q); binOp op t (.int k p) (.int k' q):Sem Value).run P w=.ok z w∧Rep w A N γ d z:=by
  intro k k' p q h hop
  have hg:(eqGuard op t x y (.int k p) (.int k' q)).run P w=.ok () w:=by rw [eqGuard_at_int]; rfl
  simp only [Sem.run_bind,hg,Result.andThen_ok];unfold zwO at h;split at h
  ·cases h
  ·rename_i hq;rcases hop with rfl | rfl
   ·simp at h; subst h; exact ⟨_,by simp [binOp_shl,Op.shift,hq],.int _ _⟩
   ·simp at h; subst h; exact ⟨_,by simp [binOp_shr,Op.shift,hq],.int _ _⟩
 have bools:∀ {p q:Bool},(op=.eql∧d=.bool (p == q))∨(op=.neq∧d=.bool (p != q))→P.underlying t=some .bool→∃ z,(do eqGuard op t x y (.bool p) (.bool q); binOp op t (.bool p) (.bool q):Sem Value).run P w=.ok z w∧Rep w A N γ d z:=by
  intro p q h ht
  have hg:(eqGuard op t x y (.bool p) (.bool q)).run P w=.ok () w:=by rw [eqGuard_at_bool]; rfl
  simp only [Sem.run_bind,hg,Result.andThen_ok];have he:(Op.equal t (.bool p) (.bool q)).run P w=.ok (p == q) w:=run_equalIn_bool' w 9999 t p q ht;rcases h with ⟨rfl,rfl⟩ | ⟨rfl,rfl⟩
  ·exact ⟨.bool (p == q),by simp [binOp,he],.bool _⟩
  ·exact ⟨.bool (p != q),by simp [binOp,he,bne],.bool _⟩
 have ht:zrf P t=true→P.underlying t=some .bool:=by
  intro h; unfold zrf at h; split at h<;>simp_all
 unfold abin at h;split at h
 ·cases ha; cases hb; exact shifts h (.inl rfl)
 ·cases ha; cases hb; exact shifts h (.inr rfl)
 ·split at h
  ·rename_i hk;subst hk;cases ha; cases hb; exact ints h
  ·cases h
 ·split at h
  ·rename_i hb';injection h with h; subst h;cases ha; cases hb; exact bools (.inl ⟨rfl,rfl⟩) (ht hb')
  ·cases h
 ·split at h
  ·rename_i hb';injection h with h; subst h;cases ha; cases hb; exact bools (.inr ⟨rfl,rfl⟩) (ht hb')
  ·cases h
 ·injection h with h; subst h;cases ha; cases hb
  exact ⟨_,by simp [eqGuard,binOp,Op.stringOp],.bool _⟩
 ·injection h with h; subst h;cases ha; cases hb
  exact ⟨_,by simp [eqGuard,binOp,Op.stringOp],.bool _⟩
 ·cases h
end Wf

namespace Wf
open Go Go.RowKit
section
variable (P:Program) (c:Ctx) (N:Nat) (w0:World) (O0:Nat→Prop) (L:Loc) (w:World)
def OpOk (o:Oper) (ρ:Operand→Value) (out:Out):Prop:=
 (∃ u w',(execOp ρ o).run P w=.ok (.value u) w'∧Did c N w0 O0 L w out u w')∨(∃ w',(execOp ρ o).run P w=.ok .skip w'∧Did c N w0 O0 L w out undef w')∨
 ∃ f args,(execOp ρ o).run P w=.ok (.enter f args) w∧Calls P f args w fun e w'=>∃ v,e=.returned v∧Did c N w0 O0 L w out v w'
end
section
variable {P:Program} {c:Ctx} {N:Nat} {w0:World} {O0:Nat→Prop} {L Lr:Loc} {w:World}
theorem zbr {s:Sem Value} {u:Value} {w':World} (h:s.run P w=.ok u w'):(do pure (Next.value (←s)):Sem Next).run P w=.ok (.value u) w':=by
 simp only [Sem.run_bind,h,Result.andThen_ok,Sem.run_pure]
theorem zrA {s:Sem Unit} {w':World} (h:s.run P w=.ok () w'):(do s; pure Next.skip:Sem Next).run P w=.ok .skip w':=by
 simp only [Sem.run_bind,h,Result.andThen_ok,Sem.run_pure]
theorem zdE {v:Option V} {o:Out} (h:out v=some o):∃ x,v=some x∧o={ v:=x }:=by
 unfold out at h
 cases v with
 | none=>cases h
 | some x=>injection h with h; exact ⟨x,rfl,h.symm⟩
theorem zt1 {nw:List Nat} {L:Loc}:∀ {vs:List V} {ds:List D},vs.mapM (lend nw L)=some ds→znO nw L [] vs=some (ds,[],[])
 | [],ds,h=>by simp at h; subst h; rfl
 | v::vs,ds,h=>by
  simp only [List.mapM_cons] at h
  cases h1:lend nw L v with
  | none=>rw [h1] at h; cases h
  | some d=>
   rw [h1] at h
   cases h2:vs.mapM (lend nw L) with
   | none=>rw [h2] at h; cases h
   | some r=>
    rw [h2] at h;injection h with h; subst h;simp [znO,zki,h1,zt1 h2]
theorem zm0 {L:Loc}:∀ {vs bef:List V},zmD L [] bef vs=true
 | [],_=>rfl
 | v::vs,bef=>by simp [zmD,zm0 (vs:=vs)]
theorem zGB {γ:Nat→Nat→Option Nat} {ρ:Nat→Nat→Nat→Option Nat} {O R:Nat→Prop} {w:World}:TabRel (zbq [] []) (zjv γ ρ O) R w:=by
 have h:∀ k x,za6 (zbq [] []) k≠some x:=fun k x=>by simp [za6,zbq]
 refine ⟨fun k wr T i cs h1=>absurd h1 (h _ _),fun k wr T i b h1=>absurd h1 (h _ _),fun k i q k' i' q' b h1=>?_,fun k T i q b h1=>absurd h1 (h _ _),fun k T i q b h1=>absurd h1 (h _ _)⟩
 obtain ⟨wr,T,h1⟩:=h1.tab;exact absurd h1 (h _ _)
theorem zEw {Γ:Env} (hΓ:∀ f sp,Γ f=some sp→Sound P f sp) (hm:Mem c N w0 O0 L w) (hs:Sees Lr L) {t:Nat} (hLr:∀ i,i≤4→Lr (t+1000*i)=L (t+1000*i))
    {f:V} {args:List V} {fu:Value} {us:Array Value} {o:Out} (ht0:t < 90000) (ha:zBY Γ Lr t f args=some o) (hf:Val c L w N f fu)
    (hv:Vals c L w N args us.toList) (hLt:∀ q a b pms szs ks F,zmT f=some (q,a,b)→Γ q=some (.st pms szs ks F)→∀ x∈ks,Lr (tb x.1)=L (tb x.1)):
    ∃ k ay_,(do let d ←Deferred.ofValue fu us; invoke d.target d.args:Sem Next).run P w=.ok (.enter k ay_) w∧Calls P k ay_ w fun e w'=>∃ v,e=.returned v∧Did c N w0 O0 L w o v w':=by
  unfold zBY at ha
  cases hc:zmT f with
  | none=>rw [hc] at ha; cases ha
  | some p=>
  obtain ⟨k,fa,fb⟩:=p
  rw [hc] at ha
  dsimp only at ha
  have hfu:∃ va vb:Array Value,fu=.func (.func k) va vb∧Vals c L w N fa va.toList∧Vals c L w N fb vb.toList:=by
    cases f with
    | clo k' a b=>
      injection hc with hc; injection hc with h1 h2; injection h2 with h2 h3
      subst h1; subst h2; subst h3
      cases hf with
      | clo _ _ _ va vb k1 k2 k3 k4=>exact ⟨va,vb,rfl,⟨by simpa using k1,fun i v u h1 h2=>k3 i v u h1 (by simpa using h2)⟩,⟨by simpa using k2,fun i v u h1 h2=>k4 i v u h1 (by simpa using h2)⟩⟩
    | d x=>
      cases x with
      | fn k' a b=>
        injection hc with hc; injection hc with h1 h2; injection h2 with h2 h3
        subst h1; subst h2; subst h3
        have hr:=hf.dat
        cases hr with
        | fn _ _ _ va vb k1 k2 k3 k4=>
          refine ⟨va,vb,rfl,⟨by simpa using k1,fun i v u h1 h2=>?_⟩,⟨by simpa using k2,fun i v u h1 h2=>?_⟩⟩
          · rw [List.getElem?_map] at h1
            cases hd:a[i]? with
            | none=>rw [hd] at h1; cases h1
            | some d=>rw [hd] at h1; injection h1 with h1; subst h1; exact .d _ _ (k3 i d u hd (by simpa using h2))
          · rw [List.getElem?_map] at h1
            cases hd:b[i]? with
            | none=>rw [hd] at h1; cases h1
            | some d=>rw [hd] at h1; injection h1 with h1; subst h1; exact .d _ _ (k4 i d u hd (by simpa using h2))
      | _=>cases hc
    | _=>cases hc
  obtain ⟨va,vb,rfl,hva,hvb⟩:=hfu
  cases hg:Γ k with
  | none=>rw [hg] at ha; cases ha
  | some sp=>
  rw [hg] at ha
  have hsound:=hΓ k sp hg
  have hvals:Vals c L w N (fa++args++fb) (va.toList++us.toList++vb.toList):=by
    have app:∀ {a b:List V} {x y:List Value},Vals c L w N a x→Vals c L w N b y→Vals c L w N (a++b) (x++y):=by
      intro a b x y h k
      refine ⟨by simp [h.1,k.1],fun i v u h1 h2=>?_⟩
      by_cases hi:i < a.length
      · rw [List.getElem?_append_left hi] at h1
        rw [List.getElem?_append_left (by rw [h.1]; exact hi)] at h2
        exact h.2 i v u h1 h2
      · rw [List.getElem?_append_right (by omega)] at h1
        rw [List.getElem?_append_right (by rw [h.1]; omega),h.1] at h2
        exact k.2 _ v u h1 h2
    exact app (app hva hv) hvb
  have hrun : ∀ fn, P.funcs[k]? = some fn → (fn.name == "runtime.NumGoroutine") = false → fn.body.isNone = false →
      (do let d ←Deferred.ofValue (.func (.func k) va vb) us; invoke d.target d.args:Sem Next).run P w=.ok (.enter k (va++us++vb)) w:=by
    intro fn h1 h2 h3
    have hn : ¬ fn.name = "runtime.NumGoroutine" := by simpa using h2
    have hb:¬ fn.body=none:=by intro h; rw [h] at h3; cases h3
    simp [Deferred.ofValue,invoke,callFunc,h1,hn,hb]
  have harr:(va.toList++us.toList++vb.toList).toArray=va++us++vb:=by
    apply Array.ext'; simp
  have hlenA:∀ {nw pms ds ms kl},znO nw Lr pms (fa++args++fb)=some (ds,ms,kl)→(∀ k,k∈nw→∃ T,za6 L k=some (true,T))→zmD Lr pms [] (fa++args++fb)=true→_:=fun h1 h2 h3=>zCj hm hs h1 h3 hvals h2
  cases sp with
  | pure szs F=>
    dsimp only at ha
    obtain ⟨⟨fn,f1,f2,f3⟩,hsd⟩:=hsound
    cases hl:(fa++args++fb).mapM (lend [] Lr) with
    | none=>rw [hl] at ha; cases ha
    | some ds=>
    rw [hl] at ha
    simp only [Option.bind_some] at ha
    cases hF:F ds with
    | none=>rw [hF] at ha; cases ha
    | some r=>
    rw [hF] at ha
    simp only [Option.bind_some] at ha
    cases had:zri Lr t szs r with
    | none=>rw [had] at ha; cases ha
    | some p=>
    obtain ⟨vv,wr⟩:=p
    rw [had] at ha
    injection ha with ha; subst ha
    refine ⟨k,_,hrun fn f1 f2 f3,?_⟩
    have hgl:=zt1 hl
    obtain ⟨_,_,hargs1,hargs2⟩:=hlenA hgl (by simp) zm0
    have hno:∀ b,¬ (Ows c L (· ∈([]:List Nat)) b∨Gv (gvOf c [] (fa++args++fb)) b):=by
      rintro b (⟨_,_,_,h,_⟩ | ⟨i,h⟩)
      · cases h
      · unfold gvOf at h; rw [zn0] at h; simp at h
    have hcall:=hsd ds r hF w c.γ (va.toList++us.toList++vb.toList) ⟨hargs1,fun i d u hd hu=>(((hargs2 i d u hd hu).1 (by rw [zn0])).2).out (fun b h=>h.elim) (Nat.le_refl _)⟩
    rw [harr] at hcall
    refine hcall.mono fun e w' ⟨v,he,hk,hr⟩=>⟨v,he,?_⟩
    have hturn:Turned w w' c.γ c.γ c.ρ c.ρ (Ows c L (· ∈ksW [])) (fun _=>False) [] (gvOf c [] (fa++args++fb)) [] ds [] (zdK [] [] []) [] szs r v:=by
      refine ⟨fun _ _ _ h=>h,fun _ _=>⟨rfl,rfl⟩,zGB,fun b h=>h.elim,⟨hk.os,hk.tape,hk.output,hk.size,fun b hb _=>hk.block b hb (fun h=>h),hk.cells⟩,fun i sz els els' h=>?_,?_⟩
      · rw [zn0] at h; cases h
      · have e:(fun b=>(b < w.heap.size∧¬ OwnG [] (gvOf c [] (fa++args++fb)) b)∨False)=fun b=>b < w.heap.size:=by
          funext b; apply propext
          refine ⟨fun h=>?_,fun h=>.inl ⟨h,fun ⟨i,h1,_⟩=>?_⟩⟩
          · rcases h with h | h
            · exact h.1
            · exact h.elim
          · rw [zn0] at h1; cases h1
        rw [e]; exact hr
    have:=zCk hm hs (ks:=[]) (tbs:=[]) (wo:=[]) hgl zm0 hvals rfl (by simp) rfl rfl ht0 had hLr (by simp [ksW]) hturn
    simpa [zh2] using this
  | st pms szs ks F=>
    dsimp only at ha
    obtain ⟨⟨fn,f1,f2,f3⟩,hsd⟩:=hsound
    cases hgl:znO (ksW ks) Lr pms (fa++args++fb) with
    | none=>rw [hgl] at ha; cases ha
    | some x=>
    obtain ⟨ds,ms,kl⟩:=x
    cases hT:zj7 Lr ks with
    | none=>rw [hgl,hT] at ha; cases ha
    | some Ts=>
    rw [hgl,hT] at ha
    dsimp only at ha
    split at ha
    rotate_left
    · cases ha
    rename_i hc
    obtain ⟨hok,hnd⟩:=hc
    cases hF:F ds Ts with
    | none=>rw [hF] at ha; cases ha
    | some a=>
    rw [hF] at ha
    simp only [Option.bind_some] at ha
    cases hwo:zj8 ms a.outs with
    | none=>rw [hwo] at ha; cases ha
    | some wo=>
    rw [hwo] at ha
    simp only [Option.bind_some] at ha
    split at ha
    rotate_left
    · cases ha
    rename_i htl
    cases had:zri Lr t szs a.r with
    | none=>rw [had] at ha; cases ha
    | some p=>
    obtain ⟨vv,wr⟩:=p
    rw [had] at ha
    injection ha with ha; subst ha
    refine ⟨k,_,hrun fn f1 f2 f3,?_⟩
    obtain ⟨t1,t2⟩:=zjw hT
    have hTL:∀ (j k:Nat) (wr:Bool) (T:Tb),ks[j]? =some (k,wr)→Ts[j]? =some T→∃ wr0,za6 L k=some (wr0,T)∧(wr=true→wr0=true):=fun j k wr T h1 h2=>by
      obtain ⟨wr0,h3,h4⟩:=t2 j k wr T h1 h2
      exact ⟨wr0,(hs.tab h3).1,h4⟩
    have hW:∀ k,k∈ksW ks→∃ T,za6 L k=some (true,T):=fun k hk=>by
      obtain ⟨j,hj,e⟩:=List.mem_iff_getElem.1 (zil.1 hk)
      obtain ⟨wr0,h3,h4⟩:=hTL j k true (Ts[j]'(by omega)) (by rw [←e]; simp) (by simp)
      rw [h4 rfl] at h3
      exact ⟨_,h3⟩
    obtain ⟨g1,g2,g3⟩:=hlenA hgl hW hok
    have hGl:∀ b,Gv (gvOf c pms (fa++args++fb)) b→∃ g,c.ι g=some b∧(L g).2≠.dead:=fun b h=>by
      obtain ⟨i,g,n,len,els,a1,a2,a3,a4,a5,a6,a7⟩:=g1 b h
      exact ⟨g,a4,by rw [(zbM a6 (by simp)).2]; simp⟩
    have hin:=zGy (Gb:=Gv (gvOf c pms (fa++args++fb))) (LT:=zbq ks Ts) hm (W:=(· ∈ksW ks)) hW (fun q wr T h=>by
      obtain ⟨j,h1,h2⟩:=zh6 h
      obtain ⟨wr0,h3,h4⟩:=hTL j q wr T h1 h2
      refine ⟨⟨wr0,h3⟩,fun e=>zil.2 (by rw [←e]; exact List.mem_of_getElem? h1),fun hq=>?_⟩
      obtain ⟨j',hj',e⟩:=List.mem_iff_getElem.1 (zil.1 hq)
      have:=zlP (wr:=true) (T:=Ts[j']'(by omega)) hnd (j:=j') (k:=q) (by rw [←e]; exact List.getElem?_eq_getElem hj') (List.getElem?_eq_getElem (by omega))
      rw [h] at this
      injection this with this; injection this) hGl
    have hcall:=hsd ds Ts a hF t1 w c.γ c.ρ (Ows c L (· ∈ksW ks)) (gvOf c pms (fa++args++fb)) (va.toList++us.toList++vb.toList) hin (fun b h=>⟨(hm.osub b (h.sub hm hW)).1,by
        obtain ⟨q,i,o,p1,p2,p3⟩:=h
        refine ⟨q,i,o,p1,p2.of fun wr T e=>?_,by cases o<;>exact p3⟩
        obtain ⟨j,hj,ej⟩:=List.mem_iff_getElem.1 (zil.1 p1)
        obtain ⟨wr0,h3,h4⟩:=hTL j q true (Ts[j]'(by omega)) (by rw [←ej]; exact List.getElem?_eq_getElem hj) (List.getElem?_eq_getElem (by omega))
        rw [e] at h3; injection h3 with h3; injection h3 with _ h3
        exact ⟨true,by rw [h3]; exact zlP hnd (j:=j) (by rw [←ej]; exact List.getElem?_eq_getElem hj) (List.getElem?_eq_getElem (by omega))⟩⟩)
      (fun i b h=>by
        obtain ⟨g,h1,h2⟩:=hGl b ⟨i,h⟩
        obtain ⟨a1,a2,a3⟩:=hm.mine g b h1 h2
        exact ⟨a2,fun h=>a3 (h.sub hm hW)⟩) g2 (fun i hi=>by
        have hl:=(zlQ hgl).1
        unfold gvOf
        rw [List.getElem?_eq_none (by omega)]
        split<;>rfl) g3
    rw [harr] at hcall
    refine hcall.mono fun e w' ⟨v,γ',ρ',O',he,hturn⟩=>⟨v,he,?_⟩
    exact zCk hm hs hgl hok hvals hT hnd hwo htl ht0 had hLr (fun q hq=>hLt k fa fb pms szs ks F hc hg (q,true) (zil.1 hq)) hturn
end
end Wf

namespace Wf
open Go Go.RowKit
section
variable {P:Program} {c:Ctx} {N:Nat} {w0:World} {O0:Nat→Prop} {L Lr:Loc} {w:World}
theorem Val.unp {v:V} {u:Value} (h:Val c L w N v u):Val c L w N v.unp u:=by
 cases v with
 | p k x=>cases h with
  | p _ _ _ hr=>exact .d _ _ hr
 | _=>exact h
theorem zA4 {ty:TypeId} {a b:Value} {r:Bool} (h:∀ d,(Op.equalIn (d+1) ty a b).run P w=.ok r w):(Op.equal ty a b).run P w=.ok r w:=h 9999
inductive NilAs:Nat→Value→Bool→Prop
 | ptr0:NilAs 0 (.pointer none) true
 | ptr1 (a):NilAs 0 (.pointer (some a)) false
 | map0:NilAs 1 (.map none) true
 | map1 (b):NilAs 1 (.map (some b)) false
 | fn0:NilAs 2 .nilFunc true
 | fn1 (f a b):NilAs 2 (.func f a b) false
 | sl0 (n k):NilAs 3 (.slice none n k) true
 | sl1 (a n k):NilAs 3 (.slice (some a) n k) false
theorem zCm {ty:TypeId} {k:Nat} {a b:Value} {r:Bool} (hk:zmV P ty=some k) (ha:NilAs k a r) (hb:NilAs k b true):
  (∀ x y,(do eqGuard .eql ty x y a b; binOp .eql ty a b:Sem Value).run P w=.ok (.bool r) w)∧
  ∀ x y,(do eqGuard .neq ty x y a b; binOp .neq ty a b:Sem Value).run P w=.ok (.bool !r) w:=by
 have he:(Op.equal ty a b).run P w=.ok r w:=by
  refine zA4 fun d=>?_
  unfold zmV at hk
  split at hk<;>first | (injection hk with hk; subst hk) | cases hk
  all_goals (rename_i hu; unfold Op.equalIn)
  ·cases hb;cases ha<;>simp [zbt hu]
  ·cases hb;cases ha<;>simp [zbt hu]
  ·cases hb;cases ha<;>simp [zbt hu]
  ·cases hb;cases ha<;>simp [zbt hu]
 constructor<;>intro x y
 ·cases ha<;>cases hb<;>simp [eqGuard,binOp,he]
 ·cases ha<;>cases hb<;>simp [eqGuard,binOp,he]
theorem zxj {k:Nat} {b:V} {u:Value} (hb:znQ k b=true) (hv:Val c L w N b u):NilAs k u true:=by
 unfold znQ at hb;split at hb
 ·simp at hb; subst hb;have:=hv.dat; cases this; exact .ptr0
 ·simp at hb; subst hb;have:=hv.dat; cases this; exact .map0
 ·simp at hb; subst hb;have:=hv.dat; cases this; exact .fn0
 ·simp at hb; subst hb;have:=hv.dat
  cases this with
  | slE _ a cap h1 h2 h3=>obtain ⟨rfl,rfl⟩:=h2 rfl; exact .sl0 _ _
  | sl _ _ _ _ _ _ _ h=>exact absurd rfl h
 ·cases hb
theorem zxk (hs:Sees Lr L) {k:Nat} {a:V} {u:Value} {r:Bool} (ha:zqD Lr k a=some r) (hk:k≤3) (hv:Val c L w N a u):NilAs k u r:=by
 unfold zqD at ha;split at ha
 ·rename_i hk0; subst hk0;split at ha
  ·injection ha with ha; subst ha; have:=hv.dat; cases this; exact .ptr0
  ·injection ha with ha; subst ha
   cases hv with
   | p _ _ _ hr=>cases hr; exact .ptr0
  ·injection ha with ha; subst ha; have:=hv.dat; cases this; exact .ptr1 _
  ·injection ha with ha; subst ha; have:=hv.dat; cases this; exact .ptr1 _
  ·injection ha with ha; subst ha
   cases hv with
   | p _ _ _ hr=>cases hr; exact .ptr1 _
  ·injection ha with ha; subst ha
   cases hv with
   | p _ _ _ hr=>cases hr; exact .ptr1 _
  ·rename_i g n o;split at ha
   ·rename_i hok;injection ha with ha; subst ha;have hd:=((ziM hs hok).1 g n o rfl).2
    cases hv with
    | ptr _ _ _ _ k1 k2=>obtain ⟨b,_,rfl⟩:=k2 hd; exact .ptr1 _
   ·cases ha
  ·cases ha
 split at ha
 ·rename_i hk0; subst hk0;split at ha
  ·injection ha with ha; subst ha; have:=hv.dat; cases this; exact .map0
  ·injection ha with ha; subst ha; have:=hv.dat; cases this; exact .map1 _
  ·rename_i g n;split at ha
   ·rename_i hok;injection ha with ha; subst ha;simp only [zeF,esOf] at hok;have hg:=hs g n;cases hx:Lr.get g n<;>rw [hx] at hok hg<;>simp at hok
    cases hv with
    | map _ _ _ k1 k2=>obtain ⟨b,_,rfl⟩:=k2 (by rw [hg (by simp)]; simp); exact .map1 _
   ·cases ha
  ·rename_i k n i o;split at ha
   ·rename_i hok;injection ha with ha; subst ha;simp only [zeF,esOf] at hok
    cases hx:ziE Lr k n i o with
    | none=>rw [hx] at hok; simp at hok
    | some l=>
     cases hv with
     | vmap _ _ _ _ _ k1 k2=>obtain ⟨b,_,rfl⟩:=k2 _ (hs.mapRow hx); exact .map1 _
   ·cases ha
  ·cases ha
 split at ha
 ·rename_i hk0; subst hk0;split at ha
  ·injection ha with ha; subst ha; have:=hv.dat; cases this; exact .fn0
  ·injection ha with ha; subst ha; have:=hv.dat; cases this; exact .fn1 _ _ _
  ·injection ha with ha; subst ha; cases hv; exact .fn1 _ _ _
  ·cases ha
 ·have h3:k=3:=by omega
  subst h3;split at ha
  ·split at ha
   ·split at ha
    ·rename_i ht;subst ht;injection ha with ha; subst ha;have:=hv.dat
     cases this with
     | slE _ a cap h1 h2 h3=>obtain ⟨rfl,rfl⟩:=h2 rfl; exact .sl0 _ _
     | sl _ _ _ _ _ _ _ h=>exact absurd rfl h
    ·split at ha
     ·rename_i ht;subst ht;injection ha with ha; subst ha;have:=hv.dat
      cases this with
      | slE _ a cap h1 h2 h3=>cases a with
       | none=>exact absurd rfl (h3.1 rfl)
       | some a=>exact .sl1 _ _ _
      | sl _ _ _ _ _ _ _ h=>exact absurd rfl (by assumption)
     ·split at ha
      ·rename_i ht;subst ht;injection ha with ha; subst ha;have:=hv.dat
       cases this with
       | slE _ a cap h1 h2 h3=>cases a with
        | none=>exact .sl0 _ _
        | some a=>exact absurd (h3.2 rfl) (by simp)
       | sl _ _ _ _ _ _ _ h=>exact absurd rfl (by assumption)
      ·cases ha
   ·injection ha with ha; subst ha;have:=hv.dat
    cases this with
    | sl=>exact .sl1 _ _ _
  ·rename_i g n off len;split at ha
   ·rename_i hok;obtain ⟨hok,hlen⟩:=hok;injection ha with ha; subst ha;simp only [zeF] at hok;have hg:=hs g n
    have fin:∀ {β sz},SlAt w β sz off len u→NilAs 3 u false:=by
     rintro β sz ⟨a,cap,rfl,h1,h2⟩
     rcases h2 with h2 | ⟨b,x,T,fz,_,rfl,_⟩
     ·omega
     ·exact .sl1 _ _ _
    cases hv with
    | ref _ _ _ _ _ k1 k2 k3=>
     cases hx:Lr.get g n<;>rw [hx] at hok hg<;>simp at hok
     ·exact fin (k2 _ _ _ (hg (by simp))).2
     ·exact fin (k3 _ _ (hg (by simp))).2
   ·cases ha
  ·rename_i k n i o lo len;split at ha
   ·rename_i hok;obtain ⟨hok,hlen⟩:=hok;injection ha with ha; subst ha;simp only [zeF,zdH] at hok
    cases hx:zeE Lr k n i o with
    | none=>rw [hx] at hok; simp at hok
    | some l=>
     cases hv with
     | vref _ _ _ _ _ _ _ k1 k2=>
      obtain ⟨_,a,cap,rfl,h1,h2⟩:=k2 _ (hs.row hx);rcases h2 with h2 | ⟨b,x,T,fz,_,rfl,_⟩
      ·omega
      ·exact .sl1 _ _ _
   ·cases ha
  ·cases ha
theorem zt2 {ty:TypeId} {k:Nat} (h:zmV P ty=some k):k≤3:=by
 unfold zmV at h
 split at h<;>first | (injection h with h; omega) | cases h
end
end Wf

