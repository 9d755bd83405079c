/- A part of the proof: lemmas that the law's row leans on. -/
import Derived.Test.YtlbdpbbpoghncaaPd
set_option linter.all false
namespace Wf
open Go Go.RowKit Go.Proofs
set_option linter.unusedVariables false
set_option maxRecDepth 100000
def zfK:Ann:={ loops:=[] }
noncomputable def zaa:List D→Option D:=denP Try.prog (zaA []) zfK [0] ID.wattlekeep_Within
theorem ziA:za2 Try.prog ID.wattlekeep_Within (.pure [0] zaa):=zau (zaC []) zbA ⟨Try.f16,by kernel_rfl,by kernel_rfl,by kernel_rfl⟩
noncomputable def zcK:Fact Try.prog:=⟨ID.wattlekeep_Within,(.pure [0] zaa),ziA⟩
noncomputable def zet (a0:Int) (a1:Int):Option D:=
  brK (decide (a1 < (1:Int)))
    (some (D.int IntKind.i64 (0:Int)))
    (sif (a1≠(0:Int)) <|
    letN (Int.tmod a0 a1) fun n1=>
    brK (decide (n1 < (0:Int)))
      (letN (IntKind.wrap IntKind.i64 (n1+a1)) fun n2=>
      some (D.int IntKind.i64 n2))
      (some (D.int IntKind.i64 n1)))
theorem zl8 (a0:Int) (a1:Int):denP Try.prog (zaA []) zfK [0] ID.wattlekeep_Within [.int .i64 a0,.int .i64 a1]=zet a0 a1:=by kernel_rfl
theorem zjd (a0:Int) (a1:Int):zaa [.int .i64 a0,.int .i64 a1]=zet a0 a1:=zl8 a0 a1
def zgK:Ann:={ loops:=[] }
noncomputable def zbt:List D→Option D:=denP Try.prog (zaA [(ID.wattlekeep_Within,(.pure [0] zaa))]) zgK [0] ID.wattleplay_Geom
theorem zj0:za2 Try.prog ID.wattleplay_Geom (.pure [0] zbt):=zau (zaC [zcK]) zbA ⟨Try.f64,by kernel_rfl,by kernel_rfl,by kernel_rfl⟩
noncomputable def zla:Fact Try.prog:=⟨ID.wattleplay_Geom,(.pure [0] zbt),zj0⟩
noncomputable def zfn (zaa:List D→Option D) (a0:Int):Option D:=
  zat (zaa [D.int IntKind.i64 a0,D.int IntKind.i64 (2:Int)]) fun r1=>
  asI IntKind.i64 r1 fun i2=>
  letN (IntKind.wrap IntKind.i64 ((5:Int)+i2)) fun n3=>
  letN (IntKind.wrap IntKind.i64 (Int.tdiv a0 (2:Int))) fun n4=>
  zat (zaa [D.int IntKind.i64 n4,D.int IntKind.i64 (3:Int)]) fun r5=>
  asI IntKind.i64 r5 fun i6=>
  sif ((0:Int)≤i6) <|
  getK ([D.int IntKind.i64 (1:Int),D.int IntKind.i64 (2:Int),D.int IntKind.i64 (4:Int)]) (Int.toNat i6) fun d7=>
  asI IntKind.i64 d7 fun i8=>
  letN (IntKind.wrap IntKind.i64 (Int.tdiv a0 (6:Int))) fun n9=>
  zat (zaa [D.int IntKind.i64 n9,D.int IntKind.i64 (4:Int)]) fun r10=>
  asI IntKind.i64 r10 fun i11=>
  letN (IntKind.wrap IntKind.i64 ((3:Int)+i11)) fun n12=>
  brK (n3 == (6:Int))
    (letN (IntKind.wrap IntKind.i64 (Int.tdiv a0 (6:Int))) fun n13=>
    zat (zaa [D.int IntKind.i64 n13,D.int IntKind.i64 (4:Int)]) fun r14=>
    asI IntKind.i64 r14 fun i15=>
    letN (IntKind.wrap IntKind.i64 ((4:Int)+i15)) fun n16=>
    letN (IntKind.wrap IntKind.i64 (Int.tdiv a0 (24:Int))) fun n17=>
    zat (zaa [D.int IntKind.i64 n17,D.int IntKind.i64 (40:Int)]) fun r18=>
    asI IntKind.i64 r18 fun i19=>
    brK (i19 == (36:Int))
      (zat (zaa [D.int IntKind.i64 a0,D.int IntKind.i64 (9:Int)]) fun r20=>
      asI IntKind.i64 r20 fun i21=>
      some (D.agg [D.int IntKind.i64 i21,D.int IntKind.i64 n16,D.int IntKind.i64 i8]))
      (brK (i19 == (37:Int))
        (zat (zaa [D.int IntKind.i64 a0,D.int IntKind.i64 (12:Int)]) fun r22=>
        asI IntKind.i64 r22 fun i23=>
        letN (IntKind.wrap IntKind.i64 (i23 - (1:Int))) fun n24=>
        some (D.agg [D.int IntKind.i64 n3,D.int IntKind.i64 n24,D.int IntKind.i64 i8]))
        (brK (i19 == (38:Int))
          (zat (zaa [D.int IntKind.i64 a0,D.int IntKind.i64 (9:Int)]) fun r25=>
          asI IntKind.i64 r25 fun i26=>
          letN (IntKind.wrap IntKind.i64 (i26 - (1:Int))) fun n27=>
          some (D.agg [D.int IntKind.i64 n3,D.int IntKind.i64 n16,D.int IntKind.i64 n27]))
          (brK (i19 == (39:Int))
            (some (D.agg [D.int IntKind.i64 n3,D.int IntKind.i64 (8:Int),D.int IntKind.i64 i8]))
            (some (D.agg [D.int IntKind.i64 n3,D.int IntKind.i64 n16,D.int IntKind.i64 i8]))))))
    (letN (IntKind.wrap IntKind.i64 (Int.tdiv a0 (24:Int))) fun n28=>
    zat (zaa [D.int IntKind.i64 n28,D.int IntKind.i64 (40:Int)]) fun r29=>
    asI IntKind.i64 r29 fun i30=>
    brK (i30 == (36:Int))
      (zat (zaa [D.int IntKind.i64 a0,D.int IntKind.i64 (9:Int)]) fun r31=>
      asI IntKind.i64 r31 fun i32=>
      some (D.agg [D.int IntKind.i64 i32,D.int IntKind.i64 n12,D.int IntKind.i64 i8]))
      (brK (i30 == (37:Int))
        (zat (zaa [D.int IntKind.i64 a0,D.int IntKind.i64 (12:Int)]) fun r33=>
        asI IntKind.i64 r33 fun i34=>
        letN (IntKind.wrap IntKind.i64 (i34 - (1:Int))) fun n35=>
        some (D.agg [D.int IntKind.i64 n3,D.int IntKind.i64 n35,D.int IntKind.i64 i8]))
        (brK (i30 == (38:Int))
          (zat (zaa [D.int IntKind.i64 a0,D.int IntKind.i64 (9:Int)]) fun r36=>
          asI IntKind.i64 r36 fun i37=>
          letN (IntKind.wrap IntKind.i64 (i37 - (1:Int))) fun n38=>
          some (D.agg [D.int IntKind.i64 n3,D.int IntKind.i64 n12,D.int IntKind.i64 n38]))
          (brK (i30 == (39:Int))
            (some (D.agg [D.int IntKind.i64 n3,D.int IntKind.i64 (8:Int),D.int IntKind.i64 i8]))
            (some (D.agg [D.int IntKind.i64 n3,D.int IntKind.i64 n12,D.int IntKind.i64 i8]))))))
theorem zn1 (zaa:List D→Option D) (a0:Int):denP Try.prog (zaA [(ID.wattlekeep_Within,(.pure [0] zaa))]) zgK [0] ID.wattleplay_Geom [.int .i64 a0]=zfn zaa a0:=by kernel_rfl
theorem zlb (a0:Int):zbt [.int .i64 a0]=zfn zaa a0:=zn1 zaa a0
def zfL:Ann:={ loops:=[] }
noncomputable def zaf:List D→Option D:=denP Try.prog (zaA []) zfL [0] ID.wattleref01_Check
theorem ziB:za2 Try.prog ID.wattleref01_Check (.pure [0] zaf):=zau (zaC []) zbA ⟨Try.f53,by kernel_rfl,by kernel_rfl,by kernel_rfl⟩
noncomputable def zcL:Fact Try.prog:=⟨ID.wattleref01_Check,(.pure [0] zaf),ziB⟩
noncomputable def zeu (a0_0:Int) (a0_1:Int) (a0_2:Int):Option D:=
  brK (a0_0 == (6:Int))
    (brK (a0_0 == (5:Int))
      (brK (decide (a0_1≥(4:Int)))
        (brK (decide (a0_1≤(8:Int)))
          (brK (a0_2 == (1:Int))
            (some (D.bool true))
            (brK (a0_2 == (2:Int))
              (some (D.bool true))
              (some (D.bool (a0_2 == (4:Int))))))
          (some (D.bool false)))
        (some (D.bool false)))
      (brK (a0_0 == (6:Int))
        (brK (decide (a0_1≥(4:Int)))
          (brK (decide (a0_1≤(8:Int)))
            (brK (a0_2 == (1:Int))
              (some (D.bool true))
              (brK (a0_2 == (2:Int))
                (some (D.bool true))
                (some (D.bool (a0_2 == (4:Int))))))
            (some (D.bool false)))
          (some (D.bool false)))
        (some (D.bool false))))
    (brK (a0_0 == (5:Int))
      (brK (decide (a0_1≥(3:Int)))
        (brK (decide (a0_1≤(8:Int)))
          (brK (a0_2 == (1:Int))
            (some (D.bool true))
            (brK (a0_2 == (2:Int))
              (some (D.bool true))
              (some (D.bool (a0_2 == (4:Int))))))
          (some (D.bool false)))
        (some (D.bool false)))
      (brK (a0_0 == (6:Int))
        (brK (decide (a0_1≥(3:Int)))
          (brK (decide (a0_1≤(8:Int)))
            (brK (a0_2 == (1:Int))
              (some (D.bool true))
              (brK (a0_2 == (2:Int))
                (some (D.bool true))
                (some (D.bool (a0_2 == (4:Int))))))
            (some (D.bool false)))
          (some (D.bool false)))
        (some (D.bool false))))
theorem zl9 (a0_0:Int) (a0_1:Int) (a0_2:Int):denP Try.prog (zaA []) zfL [0] ID.wattleref01_Check [.agg [.int .i64 a0_0,.int .i64 a0_1,.int .i64 a0_2]]=zeu a0_0 a0_1 a0_2:=by kernel_rfl
theorem zje (a0_0:Int) (a0_1:Int) (a0_2:Int):zaf [.agg [.int .i64 a0_0,.int .i64 a0_1,.int .i64 a0_2]]=zeu a0_0 a0_1 a0_2:=zl9 a0_0 a0_1 a0_2
def zgL:Ann:={ loops:=[] }
noncomputable def zbu:List D→Option D:=denP Try.prog (zaA [(ID.wattleplay_Geom,(.pure [0] zbt)),(ID.wattleref01_Check,(.pure [0] zaf))]) zgL [0] ID.wattleplay_Good
theorem zj1:za2 Try.prog ID.wattleplay_Good (.pure [0] zbu):=zau (zaC [zla,zcL]) zbA ⟨Try.f15,by kernel_rfl,by kernel_rfl,by kernel_rfl⟩
noncomputable def zlc:Fact Try.prog:=⟨ID.wattleplay_Good,(.pure [0] zbu),zj1⟩
noncomputable def zfo (zbt:List D→Option D) (zaf:List D→Option D) (a0:Int):Option D:=
  zat (zbt [D.int IntKind.i64 a0]) fun r1=>
  asAgg r1 fun cs2=>
  zaB ([Lf.int IntKind.i64,Lf.int IntKind.i64,Lf.int IntKind.i64]) cs2 fun c3=>
  zat (zaf [D.agg [D.int IntKind.i64 c3.fst,D.int IntKind.i64 c3.snd.fst,D.int IntKind.i64 c3.snd.snd.fst]]) fun r4=>
  asB r4 fun b5=>
  brK (!b5)
    (some (D.agg [D.int IntKind.i64 (5:Int),D.int IntKind.i64 (3:Int),D.int IntKind.i64 (1:Int)]))
    (some (D.agg [D.int IntKind.i64 c3.fst,D.int IntKind.i64 c3.snd.fst,D.int IntKind.i64 c3.snd.snd.fst]))
theorem zn2 (zbt:List D→Option D) (zaf:List D→Option D) (a0:Int):denP Try.prog (zaA [(ID.wattleplay_Geom,(.pure [0] zbt)),(ID.wattleref01_Check,(.pure [0] zaf))]) zgL [0] ID.wattleplay_Good [.int .i64 a0]=zfo zbt zaf a0:=by kernel_rfl
theorem zld (a0:Int):zbu [.int .i64 a0]=zfo zbt zaf a0:=zn2 zbt zaf a0
def zoP:Ann:={ loops:=[],pubs:=[(1,[(0,119,7649)])],ks:=[(7649,true)] }
noncomputable def zcT:List D→List Tb→Option Ans:=denS Try.prog (zaA []) zoP [0] ID.disk_New
theorem zra:za2 Try.prog ID.disk_New (.st [] [0] [(7649,true)] zcT):=za9 (zaC []) zbA ⟨Try.f80,by kernel_rfl,by kernel_rfl,by kernel_rfl⟩
noncomputable def zto:Fact Try.prog:=⟨ID.disk_New,(.st [] [0] [(7649,true)] zcT),zra⟩
noncomputable def zn3 (T0:Tb):Option Ans:=
  letT (T0++[List.map D.own0 (List.reverse ([D.bool false,D.sl Tag.nil []]++List.replicate 1664 (D.int IntKind.u8 (0:Int))))]) fun U1=>
  some (Ans.mk (D.h (7649:Nat) (List.length T0) (0:Nat)) [] [U1])
theorem zyf (T0:Tb):denS Try.prog (zaA []) zoP [0] ID.disk_New [] [T0]=zn3 T0:=by kernel_rfl
theorem ztp (T0:Tb):zcT [] [T0]=zn3 T0:=zyf T0
def zm7:Ann:={ loops:=[(1,[.dead,.dead,.dead,.dead,.val (.cell (.hnd (3840:Nat))),.dead,.dead,.dead,.dead,.dead,.dead,.dead,.dead,.dead,.val (.cell (.int .i64)),.val (.cell (.int .i64))])],pubs:=[(3,[(4,63,3840)])],ks:=[(3840,true),(7649,true)] }
noncomputable def zbq:List D→List Tb→Option Ans:=denS Try.prog (zaA [(ID.disk_New,(.st [] [0] [(7649,true)] zcT))]) zm7 [0,0] ID.bench_New
theorem zqx:za2 Try.prog ID.bench_New (.st [] [0,0] [(3840,true),(7649,true)] zbq):=za9 (zaC [zto]) zbA ⟨Try.f35,by kernel_rfl,by kernel_rfl,by kernel_rfl⟩
noncomputable def zlI:Fact Try.prog:=⟨ID.bench_New,(.st [] [0,0] [(3840,true),(7649,true)] zbq),zqx⟩
noncomputable def zma (zcT:List D→List Tb→Option Ans) (a0:Int) (T0:Tb) (T1:Tb):Option Ans:=
  brK (decide (a0 < (1:Int)))
    (some (Ans.mk (D.tup [D.nilp,D.int IntKind.i64 (1:Int)]) [] [T0,T1]))
    (brK (decide (a0 > (8:Int)))
      (some (Ans.mk (D.tup [D.nilp,D.int IntKind.i64 (1:Int)]) [] [T0,T1]))
      (letT (T0++[[D.own0 (D.int IntKind.i64 (0:Int)),D.own0 (D.int IntKind.i64 (-1:Int)),D.own0 (D.bool false),D.own0 (D.sl Tag.nil [])]]) fun U1=>
      zce (α:=(Nat×Int×Int×PUnit)×List (List D)×List (List D)×PUnit) (fun again2 ((x3,(i4,(i5,_))),(U6,(U7,_)))=>
        brK (decide (i5 < i4))
          (getK U6 x3 fun d8=>
          getK d8 ((3:Nat)) fun d9=>
          za4 d9 fun l10=>
          zat (zcT [] [U7]) fun r11=>
          nilK r11.outs <|
          zer r11.tbs fun c12 q13=>
          nilK q13 <|
          sif (zi2 r11.r=true) <|
          sif (zd3 (1:Nat) [r11.r]=true) <|
          getK U6 x3 fun d14=>
          getK d14 ((3:Nat)) fun d15=>
          za4 d15 fun l16=>
          sif (List.length l10+(1:Nat)≤(4294967296:Nat)) <|
          sif (zd3 (1:Nat) [r11.r]=true) <|
          sif (List.length l10=List.length l16) <|
          letT (setT U6 x3 (3:Nat) D.undef) fun U17=>
          getK U17 x3 fun d18=>
          sif ((4:Nat)≤List.length d18) <|
          sif (List.length l10+(1:Nat)=List.length (l16++[r11.r])) <|
          sif (zc6 (l16++[r11.r])=true) <|
          sif (zfH (1:Nat) (l16++[r11.r])=true) <|
          letT (zaW U17 x3 (3:Nat) [D.sl Tag.own (l16++[r11.r])]) fun U19=>
          letN (IntKind.wrap IntKind.i64 (i5+(1:Int))) fun n20=>
          again2 (((x3,i4,n20,PUnit.unit),U19,c12,PUnit.unit)))
          (some (Ans.mk (D.tup [D.h (3840) x3 (0:Nat),D.int IntKind.i64 (0:Int)]) [] [U6,U7])))
        (((List.length T0,a0,(0:Int),PUnit.unit),U1,T1,PUnit.unit))))
theorem zwg (zcT:List D→List Tb→Option Ans) (a0:Int) (T0:Tb) (T1:Tb):denS Try.prog (zaA [(ID.disk_New,(.st [] [0] [(7649,true)] zcT))]) zm7 [0,0] ID.bench_New [.int .i64 a0] [T0,T1]=zma zcT a0 T0 T1:=by kernel_rfl
theorem zrb (a0:Int) (T0:Tb) (T1:Tb):zbq [.int .i64 a0] [T0,T1]=zma zcT a0 T0 T1:=zwg zcT a0 T0 T1
def zfb:Ann:={ loops:=[] }
noncomputable def zaD:List D→Option D:=denP Try.prog (zaA [(ID.wattleref01_Check,(.pure [0] zaf))]) zfb [0] ID.wattleref01_Budget
theorem zhZ:za2 Try.prog ID.wattleref01_Budget (.pure [0] zaD):=zau (zaC [zcL]) zbA ⟨Try.f76,by kernel_rfl,by kernel_rfl,by kernel_rfl⟩
noncomputable def zeS:Fact Try.prog:=⟨ID.wattleref01_Budget,(.pure [0] zaD),zhZ⟩
noncomputable def zd5 (zaf:List D→Option D) (a0_0:Int) (a0_1:Int) (a0_2:Int):Option D:=
  zat (zaf [D.agg [D.int IntKind.i64 a0_0,D.int IntKind.i64 a0_1,D.int IntKind.i64 a0_2]]) fun r1=>
  asB r1 fun b2=>
  brK (!b2)
    (some (D.int IntKind.i64 (0:Int)))
    (letN (IntKind.wrap IntKind.i64 (a0_0 - (4:Int))) fun n3=>
    some (D.int IntKind.i64 n3))
theorem zle (zaf:List D→Option D) (a0_0:Int) (a0_1:Int) (a0_2:Int):denP Try.prog (zaA [(ID.wattleref01_Check,(.pure [0] zaf))]) zfb [0] ID.wattleref01_Budget [.agg [.int .i64 a0_0,.int .i64 a0_1,.int .i64 a0_2]]=zd5 zaf a0_0 a0_1 a0_2:=by kernel_rfl
theorem ziC (a0_0:Int) (a0_1:Int) (a0_2:Int):zaD [.agg [.int .i64 a0_0,.int .i64 a0_1,.int .i64 a0_2]]=zd5 zaf a0_0 a0_1 a0_2:=zle zaf a0_0 a0_1 a0_2
def zfM:Ann:={ loops:=[] }
noncomputable def zac:List D→Option D:=denP Try.prog (zaA [(ID.wattleref01_Check,(.pure [0] zaf)),(ID.wattleref01_Budget,(.pure [0] zaD))]) zfM [0] ID.wattleref01_Width
theorem ziD:za2 Try.prog ID.wattleref01_Width (.pure [0] zac):=zau (zaC [zcL,zeS]) zbA ⟨Try.f32,by kernel_rfl,by kernel_rfl,by kernel_rfl⟩
noncomputable def zci:Fact Try.prog:=⟨ID.wattleref01_Width,(.pure [0] zac),ziD⟩
noncomputable def zev (zaf:List D→Option D) (zaD:List D→Option D) (a0_0:Int) (a0_1:Int) (a0_2:Int):Option D:=
  zat (zaf [D.agg [D.int IntKind.i64 a0_0,D.int IntKind.i64 a0_1,D.int IntKind.i64 a0_2]]) fun r1=>
  asB r1 fun b2=>
  brK (!b2)
    (some (D.int IntKind.i64 (0:Int)))
    (zat (zaD [D.agg [D.int IntKind.i64 a0_0,D.int IntKind.i64 a0_1,D.int IntKind.i64 a0_2]]) fun r3=>
    asI IntKind.i64 r3 fun i4=>
    letN (IntKind.wrap IntKind.i64 (a0_1 - i4)) fun n5=>
    some (D.int IntKind.i64 n5))
theorem zmb (zaf:List D→Option D) (zaD:List D→Option D) (a0_0:Int) (a0_1:Int) (a0_2:Int):denP Try.prog (zaA [(ID.wattleref01_Check,(.pure [0] zaf)),(ID.wattleref01_Budget,(.pure [0] zaD))]) zfM [0] ID.wattleref01_Width [.agg [.int .i64 a0_0,.int .i64 a0_1,.int .i64 a0_2]]=zev zaf zaD a0_0 a0_1 a0_2:=by kernel_rfl
theorem zjf (a0_0:Int) (a0_1:Int) (a0_2:Int):zac [.agg [.int .i64 a0_0,.int .i64 a0_1,.int .i64 a0_2]]=zev zaf zaD a0_0 a0_1 a0_2:=zmb zaf zaD a0_0 a0_1 a0_2
def zfN:Ann:={ loops:=[(1,[.val (.cell (.int .i64)),.dead,.dead,.own 1,.dead,.dead,.dead,.dead,.dead,.dead,.dead,.val (.cell (.int .i64)),.val (.cell (.int .i64))])] }
noncomputable def za5:List D→Option D:=denP Try.prog (zaA [(ID.wattlekeep_Within,(.pure [0] zaa))]) zfN [1] ID.wattleplay_Sector
theorem ziE:za2 Try.prog ID.wattleplay_Sector (.pure [1] za5):=zau (zaC [zcK]) zbA ⟨Try.f36,by kernel_rfl,by kernel_rfl,by kernel_rfl⟩
noncomputable def zjg:Fact Try.prog:=⟨ID.wattleplay_Sector,(.pure [1] za5),ziE⟩
noncomputable def zew (zaa:List D→Option D) (a0:Int):Option D:=
  zat (zaa [D.int IntKind.i64 a0,D.int IntKind.i64 (11:Int)]) fun r1=>
  asI IntKind.i64 r1 fun i2=>
  brK (i2 == (10:Int))
    (some (D.sl Tag.own [D.int IntKind.u8 (0:Int),D.int IntKind.u8 (0:Int),D.int IntKind.u8 (0:Int),D.int IntKind.u8 (0:Int),D.int IntKind.u8 (0:Int),D.int IntKind.u8 (0:Int),D.int IntKind.u8 (0:Int),D.int IntKind.u8 (0:Int),D.int IntKind.u8 (0:Int),D.int IntKind.u8 (0:Int),D.int IntKind.u8 (0:Int),D.int IntKind.u8 (0:Int),D.int IntKind.u8 (0:Int),D.int IntKind.u8 (0:Int),D.int IntKind.u8 (0:Int),D.int IntKind.u8 (0:Int),D.int IntKind.u8 (0:Int),D.int IntKind.u8 (0:Int),D.int IntKind.u8 (0:Int),D.int IntKind.u8 (0:Int),D.int IntKind.u8 (0:Int),D.int IntKind.u8 (0:Int),D.int IntKind.u8 (0:Int),D.int IntKind.u8 (0:Int),D.int IntKind.u8 (0:Int),D.int IntKind.u8 (0:Int),D.int IntKind.u8 (0:Int),D.int IntKind.u8 (0:Int),D.int IntKind.u8 (0:Int),D.int IntKind.u8 (0:Int),D.int IntKind.u8 (0:Int),D.int IntKind.u8 (0:Int)]))
    (zce (α:=(Int×List D×Int×Int×PUnit)×PUnit) (fun again3 ((i4,(l5,(i6,(i7,_)))),_)=>
      brK (decide (i7 < i6))
        (letN (IntKind.wrap IntKind.i64 (Int.tdiv i4 (7:Int))) fun n8=>
        letN (bits BinOp.or IntKind.i64 n8 (1:Int)) fun n9=>
        letN (IntKind.wrap IntKind.i64 (i7*n9)) fun n10=>
        letN (IntKind.wrap IntKind.i64 (i4+n10)) fun n11=>
        letN (IntKind.wrap IntKind.u8 n11) fun n12=>
        sif ((0:Int)≤i7) <|
        sif (Int.toNat i7 < List.length l5) <|
        getK l5 ((0:Nat)+Int.toNat i7) fun d13=>
        sif (D.isAgg d13=false) <|
        letN (IntKind.wrap IntKind.i64 (i7+(1:Int))) fun n14=>
        sif (List.length l5=List.length (List.set l5 ((0:Nat)+Int.toNat i7) (D.int IntKind.u8 n12))) <|
        again3 (((i4,List.set l5 ((0:Nat)+Int.toNat i7) (D.int IntKind.u8 n12),i6,n14,PUnit.unit),PUnit.unit)))
        (sif (List.length l5=List.length l5) <|
        sif (List.all l5 D.free=true) <|
        some (D.sl Tag.own l5)))
      (((a0,[D.int IntKind.u8 (0:Int),D.int IntKind.u8 (0:Int),D.int IntKind.u8 (0:Int),D.int IntKind.u8 (0:Int),D.int IntKind.u8 (0:Int),D.int IntKind.u8 (0:Int),D.int IntKind.u8 (0:Int),D.int IntKind.u8 (0:Int),D.int IntKind.u8 (0:Int),D.int IntKind.u8 (0:Int),D.int IntKind.u8 (0:Int),D.int IntKind.u8 (0:Int),D.int IntKind.u8 (0:Int),D.int IntKind.u8 (0:Int),D.int IntKind.u8 (0:Int),D.int IntKind.u8 (0:Int),D.int IntKind.u8 (0:Int),D.int IntKind.u8 (0:Int),D.int IntKind.u8 (0:Int),D.int IntKind.u8 (0:Int),D.int IntKind.u8 (0:Int),D.int IntKind.u8 (0:Int),D.int IntKind.u8 (0:Int),D.int IntKind.u8 (0:Int),D.int IntKind.u8 (0:Int),D.int IntKind.u8 (0:Int),D.int IntKind.u8 (0:Int),D.int IntKind.u8 (0:Int),D.int IntKind.u8 (0:Int),D.int IntKind.u8 (0:Int),D.int IntKind.u8 (0:Int),D.int IntKind.u8 (0:Int)],(32:Int),(0:Int),PUnit.unit),PUnit.unit)))
theorem zmc (zaa:List D→Option D) (a0:Int):denP Try.prog (zaA [(ID.wattlekeep_Within,(.pure [0] zaa))]) zfN [1] ID.wattleplay_Sector [.int .i64 a0]=zew zaa a0:=by kernel_rfl
theorem zjh (a0:Int):za5 [.int .i64 a0]=zew zaa a0:=zmc zaa a0
def zfc:Ann:={ loops:=[(0,[.val (.cell .lent),.val (.cell (.int .i64)),.dead,.dead,.dead,.own 1,.val (.cell (.int .i64))])] }
noncomputable def zak:List D→Option D:=denP Try.prog (zaA [(ID.wattleplay_Sector,(.pure [1] za5))]) zfc [1] ID.wattleplay_Sectors
theorem zh0:za2 Try.prog ID.wattleplay_Sectors (.pure [1] zak):=zau (zaC [zjg]) zbA ⟨Try.f31,by kernel_rfl,by kernel_rfl,by kernel_rfl⟩
noncomputable def zdg:Fact Try.prog:=⟨ID.wattleplay_Sectors,(.pure [1] zak),zh0⟩
noncomputable def zd6 (za5:List D→Option D) (a0:List D) (a1:Int):Option D:=
  zce (α:=(List D×Int×List D×Int×PUnit)×PUnit) (fun again1 ((l2,(i3,(l4,(i5,_)))),_)=>
    brK (decide (i5 < i3))
      (letN (IntKind.wrap IntKind.i64 ((3:Int)*i5)) fun n6=>
      brK (decide (i5 < (↑(List.length l2):Int)))
        (sif ((0:Int)≤i5) <|
        getK l2 (Int.toNat i5) fun d7=>
        asI IntKind.i64 d7 fun i8=>
        zat (za5 [D.int IntKind.i64 i8]) fun r9=>
        za4 r9 fun l10=>
        sif ((0:Nat)+List.length l10≤List.length l10) <|
        sif (List.length l4+(1:Nat)≤(4294967296:Nat)) <|
        sif (List.length l4=List.length l4) <|
        letN (IntKind.wrap IntKind.i64 (i5+(1:Int))) fun n11=>
        sif (List.length l4+(1:Nat)=List.length (l4++[D.sl Tag.fresh (cut (0:Nat) (List.length l10) l10)])) <|
        again1 (((l2,i3,l4++[D.sl Tag.fresh (cut (0:Nat) (List.length l10) l10)],n11,PUnit.unit),PUnit.unit)))
        (zat (za5 [D.int IntKind.i64 n6]) fun r12=>
        za4 r12 fun l13=>
        sif ((0:Nat)+List.length l13≤List.length l13) <|
        sif (List.length l4+(1:Nat)≤(4294967296:Nat)) <|
        sif (List.length l4=List.length l4) <|
        letN (IntKind.wrap IntKind.i64 (i5+(1:Int))) fun n14=>
        sif (List.length l4+(1:Nat)=List.length (l4++[D.sl Tag.fresh (cut (0:Nat) (List.length l13) l13)])) <|
        again1 (((l2,i3,l4++[D.sl Tag.fresh (cut (0:Nat) (List.length l13) l13)],n14,PUnit.unit),PUnit.unit))))
      (sif (List.length l4=List.length l4) <|
      sif (List.all l4 D.free=true) <|
      some (D.sl Tag.own l4)))
    (((a0,a1,[],(0:Int),PUnit.unit),PUnit.unit))
theorem zlf (za5:List D→Option D) (tga0:Tag) (a0:List D) (a1:Int):denP Try.prog (zaA [(ID.wattleplay_Sector,(.pure [1] za5))]) zfc [1] ID.wattleplay_Sectors [.sl tga0 a0,.int .i64 a1]=zd6 za5 (D.lentL a0) a1:=by kernel_rfl
theorem ziF (tga0:Tag) (a0:List D) (a1:Int):zak [.sl tga0 a0,.int .i64 a1]=zd6 za5 (D.lentL a0) a1:=zlf za5 tga0 a0 a1
def zf3:Ann:={ loops:=[] }
noncomputable def zar:List D→Option D:=denP Try.prog (zaA [(ID.wattleref01_Check,(.pure [0] zaf))]) zf3 [0] ID.wattleref01_fine
theorem zji:za2 Try.prog ID.wattleref01_fine (.pure [0] zar):=zau (zaC [zcL]) zbA ⟨Try.f75,by kernel_rfl,by kernel_rfl,by kernel_rfl⟩
noncomputable def zdL:Fact Try.prog:=⟨ID.wattleref01_fine,(.pure [0] zar),zji⟩
noncomputable def zeT (zaf:List D→Option D) (a0_0:Int) (a0_1:Int) (a0_2:Int) (a1:Int):Option D:=
  zat (zaf [D.agg [D.int IntKind.i64 a0_0,D.int IntKind.i64 a0_1,D.int IntKind.i64 a0_2]]) fun r1=>
  asB r1 fun b2=>
  brK b2
    (brK (decide (a1≥(0:Int)))
      (some (D.bool (decide (a1 < (16:Int)))))
      (some (D.bool false)))
    (some (D.bool false))
theorem zm8 (zaf:List D→Option D) (a0_0:Int) (a0_1:Int) (a0_2:Int) (a1:Int):denP Try.prog (zaA [(ID.wattleref01_Check,(.pure [0] zaf))]) zf3 [0] ID.wattleref01_fine [.agg [.int .i64 a0_0,.int .i64 a0_1,.int .i64 a0_2],.int .i64 a1]=zeT zaf a0_0 a0_1 a0_2 a1:=by kernel_rfl
theorem zj2 (a0_0:Int) (a0_1:Int) (a0_2:Int) (a1:Int):zar [.agg [.int .i64 a0_0,.int .i64 a0_1,.int .i64 a0_2],.int .i64 a1]=zeT zaf a0_0 a0_1 a0_2 a1:=zm8 zaf a0_0 a0_1 a0_2 a1
def zfd:Ann:={ loops:=[] }
noncomputable def zaz:List D→Option D:=denP Try.prog (zaA [(ID.wattleref01_fine,(.pure [0] zar))]) zfd [0,0] ID.wattleref01_Parity
theorem zh1:za2 Try.prog ID.wattleref01_Parity (.pure [0,0] zaz):=zau (zaC [zdL]) zbA ⟨Try.f46,by kernel_rfl,by kernel_rfl,by kernel_rfl⟩
noncomputable def zeU:Fact Try.prog:=⟨ID.wattleref01_Parity,(.pure [0,0] zaz),zh1⟩
noncomputable def zd7 (zar:List D→Option D) (a0_0:Int) (a0_1:Int) (a0_2:Int) (a1:Int):Option D:=
  zat (zar [D.agg [D.int IntKind.i64 a0_0,D.int IntKind.i64 a0_1,D.int IntKind.i64 a0_2],D.int IntKind.i64 a1]) fun r1=>
  asB r1 fun b2=>
  brK (!b2)
    (some (D.tup [D.int IntKind.i64 (-1:Int),D.int IntKind.i64 (-1:Int)]))
    (letN (IntKind.wrap IntKind.i64 (a0_1 - (1:Int))) fun n3=>
    sif (a0_2≠(0:Int)) <|
    letN (IntKind.wrap IntKind.i64 (Int.tdiv a1 a0_2)) fun n4=>
    sif (a0_1≠(0:Int)) <|
    letN (Int.tmod n4 a0_1) fun n5=>
    letN (IntKind.wrap IntKind.i64 (n3 - n5)) fun n6=>
    brK (a0_0 == (5:Int))
      (some (D.tup [D.int IntKind.i64 n6,D.int IntKind.i64 (-1:Int)]))
      (letN (IntKind.wrap IntKind.i64 (n6+(1:Int))) fun n7=>
      sif (a0_1≠(0:Int)) <|
      letN (Int.tmod n7 a0_1) fun n8=>
      some (D.tup [D.int IntKind.i64 n6,D.int IntKind.i64 n8])))
theorem zlg (zar:List D→Option D) (a0_0:Int) (a0_1:Int) (a0_2:Int) (a1:Int):denP Try.prog (zaA [(ID.wattleref01_fine,(.pure [0] zar))]) zfd [0,0] ID.wattleref01_Parity [.agg [.int .i64 a0_0,.int .i64 a0_1,.int .i64 a0_2],.int .i64 a1]=zd7 zar a0_0 a0_1 a0_2 a1:=by kernel_rfl
theorem ziG (a0_0:Int) (a0_1:Int) (a0_2:Int) (a1:Int):zaz [.agg [.int .i64 a0_0,.int .i64 a0_1,.int .i64 a0_2],.int .i64 a1]=zd7 zar a0_0 a0_1 a0_2 a1:=zlg zar a0_0 a0_1 a0_2 a1
def zf4:Ann:={ loops:=[] }
noncomputable def zbb:List D→Option D:=denP Try.prog (zaA [(ID.wattleref01_fine,(.pure [0] zar)),(ID.wattleref01_Width,(.pure [0] zac)),(ID.wattleref01_Parity,(.pure [0,0] zaz)),(ID.wattleref01_Budget,(.pure [0] zaD))]) zf4 [0] ID.wattleref01_Disk
theorem zjj:za2 Try.prog ID.wattleref01_Disk (.pure [0] zbb):=zau (zaC [zdL,zci,zeU,zeS]) zbA ⟨Try.f74,by kernel_rfl,by kernel_rfl,by kernel_rfl⟩
noncomputable def zj3:Fact Try.prog:=⟨ID.wattleref01_Disk,(.pure [0] zbb),zjj⟩
noncomputable def zeV (zar:List D→Option D) (zac:List D→Option D) (zaz:List D→Option D) (zaD:List D→Option D) (a0_0:Int) (a0_1:Int) (a0_2:Int) (a1:Int) (a2:Int):Option D:=
  zat (zar [D.agg [D.int IntKind.i64 a0_0,D.int IntKind.i64 a0_1,D.int IntKind.i64 a0_2],D.int IntKind.i64 a1]) fun r1=>
  asB r1 fun b2=>
  brK (!b2)
    (some (D.int IntKind.i64 (-1:Int)))
    (brK (decide (a2 < (0:Int)))
      (some (D.int IntKind.i64 (-1:Int)))
      (zat (zac [D.agg [D.int IntKind.i64 a0_0,D.int IntKind.i64 a0_1,D.int IntKind.i64 a0_2]]) fun r3=>
      asI IntKind.i64 r3 fun i4=>
      brK (decide (a2≥i4))
        (some (D.int IntKind.i64 (-1:Int)))
        (zat (zaz [D.agg [D.int IntKind.i64 a0_0,D.int IntKind.i64 a0_1,D.int IntKind.i64 a0_2],D.int IntKind.i64 a1]) fun r5=>
        zeq r5 fun ts6=>
        zaB ([Lf.any,Lf.any]) ts6 fun c7=>
        asI IntKind.i64 c7.fst fun i8=>
        asI IntKind.i64 c7.snd.fst fun i9=>
        zat (zaD [D.agg [D.int IntKind.i64 a0_0,D.int IntKind.i64 a0_1,D.int IntKind.i64 a0_2]]) fun r10=>
        asI IntKind.i64 r10 fun i11=>
        letN (IntKind.wrap IntKind.i64 (i8+i11)) fun n12=>
        letN (IntKind.wrap IntKind.i64 (n12+a2)) fun n13=>
        sif (a0_1≠(0:Int)) <|
        letN (Int.tmod n13 a0_1) fun n14=>
        some (D.int IntKind.i64 n14))))
theorem zm9 (zar:List D→Option D) (zac:List D→Option D) (zaz:List D→Option D) (zaD:List D→Option D) (a0_0:Int) (a0_1:Int) (a0_2:Int) (a1:Int) (a2:Int):denP Try.prog (zaA [(ID.wattleref01_fine,(.pure [0] zar)),(ID.wattleref01_Width,(.pure [0] zac)),(ID.wattleref01_Parity,(.pure [0,0] zaz)),(ID.wattleref01_Budget,(.pure [0] zaD))]) zf4 [0] ID.wattleref01_Disk [.agg [.int .i64 a0_0,.int .i64 a0_1,.int .i64 a0_2],.int .i64 a1,.int .i64 a2]=zeV zar zac zaz zaD a0_0 a0_1 a0_2 a1 a2:=by kernel_rfl
theorem zj4 (a0_0:Int) (a0_1:Int) (a0_2:Int) (a1:Int) (a2:Int):zbb [.agg [.int .i64 a0_0,.int .i64 a0_1,.int .i64 a0_2],.int .i64 a1,.int .i64 a2]=zeV zar zac zaz zaD a0_0 a0_1 a0_2 a1 a2:=zm9 zar zac zaz zaD a0_0 a0_1 a0_2 a1 a2
def zfO:Ann:={ loops:=[(0,[.val (.cell .lent),.dead,.dead,.dead,.dead,.val (.cell .lent),.val (.cell (.int .i64)),.val (.cell (.int .i64))])] }
noncomputable def zaG:List D→Option D:=denP Try.prog (zaA []) zfO [0] ID.wattleref01_alike
theorem ziH:za2 Try.prog ID.wattleref01_alike (.pure [0] zaG):=zau (zaC []) zbA ⟨Try.f115,by kernel_rfl,by kernel_rfl,by kernel_rfl⟩
noncomputable def zfe:Fact Try.prog:=⟨ID.wattleref01_alike,(.pure [0] zaG),ziH⟩
noncomputable def zex (a0:List D):Option D:=
  zce (α:=(List D×List D×Int×Int×PUnit)×PUnit) (fun again1 ((l2,(l3,(i4,(i5,_)))),_)=>
    brK (decide (i5 < i4))
      (sif ((0:Int)≤i5) <|
      getK l3 (Int.toNat i5) fun d6=>
      asSl d6 fun t7 l8=>
      getK l2 ((0:Nat)) fun d9=>
      asSl d9 fun t10 l11=>
      brK ((↑(List.length l8):Int) != (↑(List.length l11):Int))
        (some (D.bool false))
        (letN (IntKind.wrap IntKind.i64 (i5+(1:Int))) fun n12=>
        again1 (((l2,l3,i4,n12,PUnit.unit),PUnit.unit))))
      (some (D.bool (decide ((↑(List.length l2):Int) > (0:Int))))))
    (((a0,a0,(↑(List.length a0):Int),(0:Int),PUnit.unit),PUnit.unit))
theorem zmd (tga0:Tag) (a0:List D):denP Try.prog (zaA []) zfO [0] ID.wattleref01_alike [.sl tga0 a0]=zex (D.lentL a0):=by kernel_rfl
theorem zjk (tga0:Tag) (a0:List D):zaG [.sl tga0 a0]=zex (D.lentL a0):=zmd tga0 a0
def zh2:Ann:={ loops:=[(1,[.dead,.dead,.dead,.own 1,.dead,.dead,.dead,.dead,.dead,.dead,.dead,.dead,.dead,.dead,.dead,.dead,.val (.cell .lent),.val (.cell (.int .i64)),.val (.cell (.int .i64))]),(3,[.dead,.dead,.dead,.own 1,.dead,.dead,.dead,.dead,.dead,.dead,.dead,.dead,.dead,.dead,.dead,.dead,.val (.cell .lent),.val (.cell (.int .i64)),.val (.cell (.int .i64)),.dead,.dead,.dead,.val (.cell .sl),.val (.cell (.int .i64)),.val (.cell (.int .i64))])] }
noncomputable def zbI:List D→Option D:=denP Try.prog (zaA [(ID.wattleref01_alike,(.pure [0] zaG))]) zh2 [1] ID.wattleref01_P
theorem zme:za2 Try.prog ID.wattleref01_P (.pure [1] zbI):=zau (zaC [zfe]) zbA ⟨Try.f81,by kernel_rfl,by kernel_rfl,by kernel_rfl⟩
noncomputable def zna:Fact Try.prog:=⟨ID.wattleref01_P,(.pure [1] zbI),zme⟩
noncomputable def zgM (zaG:List D→Option D) (a0:List D):Option D:=
  zat (zaG [D.sl Tag.lent a0]) fun r1=>
  asB r1 fun b2=>
  brK (!b2)
    (some (D.sl Tag.own []))
    (getK a0 ((0:Nat)) fun d3=>
    asSl d3 fun t4 l5=>
    sif ((↑(List.length l5):Int)=(↑(List.length l5):Int)) <|
    sif ((↑(List.length l5):Int)*(1:Int)≤(140737488355328:Int)) <|
    sif ((↑(List.length l5):Int)≤(140737488355328:Int)) <|
    sif (Int.toNat (↑(List.length l5):Int)=List.length (List.replicate (Int.toNat (↑(List.length l5):Int)) (D.int IntKind.u8 (0:Int)))) <|
    zce (α:=(List D×List D×Int×Int×PUnit)×PUnit) (fun again6 ((l7,(l8,(i9,(i10,_)))),_)=>
      brK (decide (i10 < i9))
        (sif ((0:Int)≤i10) <|
        getK l8 (Int.toNat i10) fun d11=>
        asSl d11 fun t12 l13=>
        sif (List.length l7=List.length l7) <|
        zce (α:=(List D×List D×Int×Int×(Tag×List D)×Int×Int×PUnit)×PUnit) (fun again14 ((l15,(l16,(i17,(i18,((t19,l20),(i21,(i22,_))))))),_)=>
          brK (decide (i22 < i21))
            (sif ((0:Int)≤i22) <|
            getK l20 (Int.toNat i22) fun d23=>
            asI IntKind.u8 d23 fun i24=>
            sif ((0:Int)≤i22) <|
            sif (Int.toNat i22 < List.length l15) <|
            getK l15 ((0:Nat)+Int.toNat i22) fun d25=>
            asI IntKind.u8 d25 fun i26=>
            letN (bits BinOp.xor IntKind.u8 i26 i24) fun n27=>
            sif ((0:Int)≤i22) <|
            sif (Int.toNat i22 < List.length l15) <|
            getK l15 ((0:Nat)+Int.toNat i22) fun d28=>
            sif (D.isAgg d28=false) <|
            letN (IntKind.wrap IntKind.i64 (i22+(1:Int))) fun n29=>
            sif (List.length l15=List.length (List.set l15 ((0:Nat)+Int.toNat i22) (D.int IntKind.u8 n27))) <|
            again14 (((List.set l15 ((0:Nat)+Int.toNat i22) (D.int IntKind.u8 n27),l16,i17,i18,(t19,l20),i21,n29,PUnit.unit),PUnit.unit)))
            (letN (IntKind.wrap IntKind.i64 (i18+(1:Int))) fun n30=>
            sif (List.length l15=List.length l15) <|
            again6 (((l15,l16,i17,n30,PUnit.unit),PUnit.unit))))
          (((l7,l8,i9,i10,(t12,l13),(↑(List.length l13):Int),(0:Int),PUnit.unit),PUnit.unit)))
        (sif (List.length l7=List.length l7) <|
        sif (List.all l7 D.free=true) <|
        some (D.sl Tag.own l7)))
      (((List.replicate (Int.toNat (↑(List.length l5):Int)) (D.int IntKind.u8 (0:Int)),a0,(↑(List.length a0):Int),(0:Int),PUnit.unit),PUnit.unit)))
theorem zqy (zaG:List D→Option D) (tga0:Tag) (a0:List D):denP Try.prog (zaA [(ID.wattleref01_alike,(.pure [0] zaG))]) zh2 [1] ID.wattleref01_P [.sl tga0 a0]=zgM zaG (D.lentL a0):=by kernel_rfl
theorem znb (tga0:Tag) (a0:List D):zbI [.sl tga0 a0]=zgM zaG (D.lentL a0):=zqy zaG tga0 a0
def zgN:Ann:={ loops:=[(0,[.dead,.val (.cell (.int .u8)),.dead,.dead,.dead,.val (.cell (.int .i64)),.val (.cell (.int .i64)),.val (.cell (.int .i64))])] }
noncomputable def zaN:List D→Option D:=denP Try.prog (zaA []) zgN [0] ID.wattleref01_Mul
theorem zj5:za2 Try.prog ID.wattleref01_Mul (.pure [0] zaN):=zau (zaC []) zbA ⟨Try.f117,by kernel_rfl,by kernel_rfl,by kernel_rfl⟩
noncomputable def zf5:Fact Try.prog:=⟨ID.wattleref01_Mul,(.pure [0] zaN),zj5⟩
noncomputable def zfp (a0:Int) (a1:Int):Option D:=
  letN (IntKind.wrap IntKind.i64 a0) fun n1=>
  zce (α:=(Int×Int×Int×Int×PUnit)×PUnit) (fun again2 ((i3,(i4,(i5,(i6,_)))),_)=>
    brK (decide (i6 < (8:Int)))
      (letN (IntKind.wrap IntKind.u64 i6) fun n7=>
      sif ((0:Int)≤n7) <|
      letN (Int.fdiv i3 ((2:Int) ^ min (Int.toNat n7) (8:Nat))) fun n8=>
      letN (bits BinOp.and IntKind.u8 n8 (1:Int)) fun n9=>
      brK (n9 == (1:Int))
        (letN (bits BinOp.xor IntKind.i64 i5 i4) fun n10=>
        letN (IntKind.wrap IntKind.i64 (i4*(2:Int))) fun n11=>
        brK (decide (n11 > (255:Int)))
          (letN (bits BinOp.xor IntKind.i64 n11 (285:Int)) fun n12=>
          letN (IntKind.wrap IntKind.i64 (i6+(1:Int))) fun n13=>
          again2 (((i3,n12,n10,n13,PUnit.unit),PUnit.unit)))
          (letN (IntKind.wrap IntKind.i64 (i6+(1:Int))) fun n14=>
          again2 (((i3,n11,n10,n14,PUnit.unit),PUnit.unit))))
        (letN (IntKind.wrap IntKind.i64 (i4*(2:Int))) fun n15=>
        brK (decide (n15 > (255:Int)))
          (letN (bits BinOp.xor IntKind.i64 n15 (285:Int)) fun n16=>
          letN (IntKind.wrap IntKind.i64 (i6+(1:Int))) fun n17=>
          again2 (((i3,n16,i5,n17,PUnit.unit),PUnit.unit)))
          (letN (IntKind.wrap IntKind.i64 (i6+(1:Int))) fun n18=>
          again2 (((i3,n15,i5,n18,PUnit.unit),PUnit.unit)))))
      (letN (IntKind.wrap IntKind.u8 i5) fun n19=>
      some (D.int IntKind.u8 n19)))
    (((a1,n1,(0:Int),(0:Int),PUnit.unit),PUnit.unit))
theorem zn4 (a0:Int) (a1:Int):denP Try.prog (zaA []) zgN [0] ID.wattleref01_Mul [.int .u8 a0,.int .u8 a1]=zfp a0 a1:=by kernel_rfl
theorem zlh (a0:Int) (a1:Int):zaN [.int .u8 a0,.int .u8 a1]=zfp a0 a1:=zn4 a0 a1
def zgO:Ann:={ loops:=[(1,[.val (.cell (.int .i64)),.dead,.dead,.val (.cell (.int .u8))])] }
noncomputable def zbv:List D→Option D:=denP Try.prog (zaA [(ID.wattleref01_Mul,(.pure [0] zaN))]) zgO [0] ID.wattleref01_Pow
theorem zj6:za2 Try.prog ID.wattleref01_Pow (.pure [0] zbv):=zau (zaC [zf5]) zbA ⟨Try.f116,by kernel_rfl,by kernel_rfl,by kernel_rfl⟩
noncomputable def zli:Fact Try.prog:=⟨ID.wattleref01_Pow,(.pure [0] zbv),zj6⟩
noncomputable def zfq (zaN:List D→Option D) (a0:Int):Option D:=
  letN (Int.tmod a0 (255:Int)) fun n1=>
  brK (decide (n1 < (0:Int)))
    (letN (IntKind.wrap IntKind.i64 (n1+(255:Int))) fun n2=>
    zce (α:=(Int×Int×PUnit)×PUnit) (fun again3 ((i4,(i5,_)),_)=>
      brK (decide (i4 > (0:Int)))
        (zat (zaN [D.int IntKind.u8 i5,D.int IntKind.u8 (2:Int)]) fun r6=>
        asI IntKind.u8 r6 fun i7=>
        letN (IntKind.wrap IntKind.i64 (i4 - (1:Int))) fun n8=>
        again3 (((n8,i7,PUnit.unit),PUnit.unit)))
        (some (D.int IntKind.u8 i5)))
      (((n2,(1:Int),PUnit.unit),PUnit.unit)))
    (zce (α:=(Int×Int×PUnit)×PUnit) (fun again9 ((i10,(i11,_)),_)=>
      brK (decide (i10 > (0:Int)))
        (zat (zaN [D.int IntKind.u8 i11,D.int IntKind.u8 (2:Int)]) fun r12=>
        asI IntKind.u8 r12 fun i13=>
        letN (IntKind.wrap IntKind.i64 (i10 - (1:Int))) fun n14=>
        again9 (((n14,i13,PUnit.unit),PUnit.unit)))
        (some (D.int IntKind.u8 i11)))
      (((n1,(1:Int),PUnit.unit),PUnit.unit)))
theorem zn5 (zaN:List D→Option D) (a0:Int):denP Try.prog (zaA [(ID.wattleref01_Mul,(.pure [0] zaN))]) zgO [0] ID.wattleref01_Pow [.int .i64 a0]=zfq zaN a0:=by kernel_rfl
theorem zlj (a0:Int):zbv [.int .i64 a0]=zfq zaN a0:=zn5 zaN a0
def zh3:Ann:={ loops:=[(1,[.dead,.dead,.dead,.own 1,.dead,.dead,.dead,.dead,.dead,.dead,.dead,.dead,.dead,.dead,.dead,.dead,.dead,.val (.cell .lent),.val (.cell (.int .i64)),.val (.cell (.int .i64))]),(3,[.dead,.dead,.dead,.own 1,.dead,.dead,.val (.cell (.int .u8)),.dead,.dead,.dead,.dead,.dead,.dead,.dead,.dead,.dead,.dead,.val (.cell .lent),.val (.cell (.int .i64)),.val (.cell (.int .i64)),.dead,.dead,.dead,.dead,.dead,.dead,.val (.cell .sl),.val (.cell (.int .i64)),.val (.cell (.int .i64))])] }
noncomputable def zbJ:List D→Option D:=denP Try.prog (zaA [(ID.wattleref01_alike,(.pure [0] zaG)),(ID.wattleref01_Pow,(.pure [0] zbv)),(ID.wattleref01_Mul,(.pure [0] zaN))]) zh3 [1] ID.wattleref01_Q
theorem zmf:za2 Try.prog ID.wattleref01_Q (.pure [1] zbJ):=zau (zaC [zfe,zli,zf5]) zbA ⟨Try.f82,by kernel_rfl,by kernel_rfl,by kernel_rfl⟩
noncomputable def znc:Fact Try.prog:=⟨ID.wattleref01_Q,(.pure [1] zbJ),zmf⟩
noncomputable def zgP (zaG:List D→Option D) (zbv:List D→Option D) (zaN:List D→Option D) (a0:List D):Option D:=
  zat (zaG [D.sl Tag.lent a0]) fun r1=>
  asB r1 fun b2=>
  brK (!b2)
    (some (D.sl Tag.own []))
    (getK a0 ((0:Nat)) fun d3=>
    asSl d3 fun t4 l5=>
    sif ((↑(List.length l5):Int)=(↑(List.length l5):Int)) <|
    sif ((↑(List.length l5):Int)*(1:Int)≤(140737488355328:Int)) <|
    sif ((↑(List.length l5):Int)≤(140737488355328:Int)) <|
    sif (Int.toNat (↑(List.length l5):Int)=List.length (List.replicate (Int.toNat (↑(List.length l5):Int)) (D.int IntKind.u8 (0:Int)))) <|
    zce (α:=(List D×List D×Int×Int×PUnit)×PUnit) (fun again6 ((l7,(l8,(i9,(i10,_)))),_)=>
      brK (decide (i10 < i9))
        (sif ((0:Int)≤i10) <|
        getK l8 (Int.toNat i10) fun d11=>
        asSl d11 fun t12 l13=>
        zat (zbv [D.int IntKind.i64 i10]) fun r14=>
        asI IntKind.u8 r14 fun i15=>
        sif (List.length l7=List.length l7) <|
        zce (α:=(List D×Int×List D×Int×Int×(Tag×List D)×Int×Int×PUnit)×PUnit) (fun again16 ((l17,(i18,(l19,(i20,(i21,((t22,l23),(i24,(i25,_)))))))),_)=>
          brK (decide (i25 < i24))
            (sif ((0:Int)≤i25) <|
            getK l23 (Int.toNat i25) fun d26=>
            asI IntKind.u8 d26 fun i27=>
            sif ((0:Int)≤i25) <|
            sif (Int.toNat i25 < List.length l17) <|
            getK l17 ((0:Nat)+Int.toNat i25) fun d28=>
            asI IntKind.u8 d28 fun i29=>
            zat (zaN [D.int IntKind.u8 i27,D.int IntKind.u8 i18]) fun r30=>
            asI IntKind.u8 r30 fun i31=>
            letN (bits BinOp.xor IntKind.u8 i29 i31) fun n32=>
            sif ((0:Int)≤i25) <|
            sif (Int.toNat i25 < List.length l17) <|
            getK l17 ((0:Nat)+Int.toNat i25) fun d33=>
            sif (D.isAgg d33=false) <|
            letN (IntKind.wrap IntKind.i64 (i25+(1:Int))) fun n34=>
            sif (List.length l17=List.length (List.set l17 ((0:Nat)+Int.toNat i25) (D.int IntKind.u8 n32))) <|
            again16 (((List.set l17 ((0:Nat)+Int.toNat i25) (D.int IntKind.u8 n32),i18,l19,i20,i21,(t22,l23),i24,n34,PUnit.unit),PUnit.unit)))
            (letN (IntKind.wrap IntKind.i64 (i21+(1:Int))) fun n35=>
            sif (List.length l17=List.length l17) <|
            again6 (((l17,l19,i20,n35,PUnit.unit),PUnit.unit))))
          (((l7,i15,l8,i9,i10,(t12,l13),(↑(List.length l13):Int),(0:Int),PUnit.unit),PUnit.unit)))
        (sif (List.length l7=List.length l7) <|
        sif (List.all l7 D.free=true) <|
        some (D.sl Tag.own l7)))
      (((List.replicate (Int.toNat (↑(List.length l5):Int)) (D.int IntKind.u8 (0:Int)),a0,(↑(List.length a0):Int),(0:Int),PUnit.unit),PUnit.unit)))
theorem zqz (zaG:List D→Option D) (zbv:List D→Option D) (zaN:List D→Option D) (tga0:Tag) (a0:List D):denP Try.prog (zaA [(ID.wattleref01_alike,(.pure [0] zaG)),(ID.wattleref01_Pow,(.pure [0] zbv)),(ID.wattleref01_Mul,(.pure [0] zaN))]) zh3 [1] ID.wattleref01_Q [.sl tga0 a0]=zgP zaG zbv zaN (D.lentL a0):=by kernel_rfl
theorem znd (tga0:Tag) (a0:List D):zbJ [.sl tga0 a0]=zgP zaG zbv zaN (D.lentL a0):=zqz zaG zbv zaN tga0 a0
def zf6:Ann:={ loops:=[(1,[.dead,.val (.cell (.int .i64)),.val (.cell .lent),.box true [(.int .i64),(.int .i64),(.int .i64)],.dead,.dead,.dead,.dead,.own 1,.dead,.dead,.dead,.dead,.dead,.dead,.dead,.dead,.dead,.dead,.dead,.dead,.dead,.dead,.dead,.dead,.dead,.dead,.val (.cell .lent),.val (.cell (.int .i64)),.val (.cell (.int .i64))])] }
noncomputable def zaI:List D→Option D:=denP Try.prog (zaA [(ID.wattleref01_fine,(.pure [0] zar)),(ID.wattleref01_Width,(.pure [0] zac)),(ID.wattleref01_Disk,(.pure [0] zbb)),(ID.wattleref01_Parity,(.pure [0,0] zaz)),(ID.wattleref01_P,(.pure [1] zbI)),(ID.wattleref01_Q,(.pure [1] zbJ))]) zf6 [1,0] ID.wattleref01_Fill
theorem zjl:za2 Try.prog ID.wattleref01_Fill (.pure [1,0] zaI):=zau (zaC [zdL,zci,zj3,zeU,zna,znc]) zbA ⟨Try.f39,by kernel_rfl,by kernel_rfl,by kernel_rfl⟩
noncomputable def zfP:Fact Try.prog:=⟨ID.wattleref01_Fill,(.pure [1,0] zaI),zjl⟩
noncomputable def zeW (zar:List D→Option D) (zac:List D→Option D) (zbb:List D→Option D) (zaz:List D→Option D) (zbI:List D→Option D) (zbJ:List D→Option D) (a0_0:Int) (a0_1:Int) (a0_2:Int) (a1:Int) (a2:List D):Option D:=
  zat (zar [D.agg [D.int IntKind.i64 a0_0,D.int IntKind.i64 a0_1,D.int IntKind.i64 a0_2],D.int IntKind.i64 a1]) fun r1=>
  asB r1 fun b2=>
  brK (!b2)
    (some (D.tup [D.sl Tag.own [],D.bool false]))
    (zat (zac [D.agg [D.int IntKind.i64 a0_0,D.int IntKind.i64 a0_1,D.int IntKind.i64 a0_2]]) fun r3=>
    asI IntKind.i64 r3 fun i4=>
    brK ((↑(List.length a2):Int) != i4)
      (some (D.tup [D.sl Tag.own [],D.bool false]))
      (sif ((0:Int)≤a0_1) <|
      sif (a0_1=a0_1) <|
      sif (a0_1*(24:Int)≤(140737488355328:Int)) <|
      sif (a0_1≤(140737488355328:Int)) <|
      sif (Int.toNat a0_1=List.length (List.replicate (Int.toNat a0_1) (D.sl Tag.nil []))) <|
      zce (α:=(Int×List D×(Int×Int×Int×PUnit)×List D×List D×Int×Int×PUnit)×PUnit) (fun again5 ((i6,(l7,((i8,(i9,(i10,_))),(l11,(l12,(i13,(i14,_))))))),_)=>
        brK (decide (i14 < i13))
          (sif ((0:Int)≤i14) <|
          getK l12 (Int.toNat i14) fun d15=>
          asSl d15 fun t16 l17=>
          brK ((↑(List.length l17):Int) != (32:Int))
            (some (D.tup [D.sl Tag.own [],D.bool false]))
            (zat (zbb [D.agg [D.int IntKind.i64 i8,D.int IntKind.i64 i9,D.int IntKind.i64 i10],D.int IntKind.i64 i6,D.int IntKind.i64 i14]) fun r18=>
            asI IntKind.i64 r18 fun i19=>
            sif (List.length l17≤(4294967296:Nat)) <|
            sif (zd3 (1:Nat) l17=true) <|
            sif ((0:Int)≤i19) <|
            sif (Int.toNat i19 < List.length l11) <|
            sif ((0:Nat)+List.length l17≤List.length l17) <|
            getK l11 ((0:Nat)+Int.toNat i19) fun d20=>
            sif ((0:Nat)+List.length l17≤List.length l17) <|
            sif (D.isAgg d20=false) <|
            letN (IntKind.wrap IntKind.i64 (i14+(1:Int))) fun n21=>
            sif (List.length l11=List.length (List.set l11 ((0:Nat)+Int.toNat i19) (D.sl Tag.fresh (cut (0:Nat) (List.length l17) l17)))) <|
            again5 (((i6,l7,(i8,i9,i10,PUnit.unit),List.set l11 ((0:Nat)+Int.toNat i19) (D.sl Tag.fresh (cut (0:Nat) (List.length l17) l17)),l12,i13,n21,PUnit.unit),PUnit.unit))))
          (zat (zaz [D.agg [D.int IntKind.i64 i8,D.int IntKind.i64 i9,D.int IntKind.i64 i10],D.int IntKind.i64 i6]) fun r22=>
          zeq r22 fun ts23=>
          zaB ([Lf.any,Lf.any]) ts23 fun c24=>
          asI IntKind.i64 c24.fst fun i25=>
          asI IntKind.i64 c24.snd.fst fun i26=>
          zat (zbI [D.sl Tag.lent l7]) fun r27=>
          za4 r27 fun l28=>
          sif ((0:Int)≤i25) <|
          sif (Int.toNat i25 < List.length l11) <|
          sif ((0:Nat)+List.length l28≤List.length l28) <|
          getK l11 ((0:Nat)+Int.toNat i25) fun d29=>
          sif ((0:Nat)+List.length l28≤List.length l28) <|
          sif (D.isAgg d29=false) <|
          brK (decide (i26≥(0:Int)))
            (zat (zbJ [D.sl Tag.lent l7]) fun r30=>
            za4 r30 fun l31=>
            sif ((0:Int)≤i26) <|
            sif (Int.toNat i26 < List.length l11) <|
            sif ((0:Nat)+List.length l31≤List.length l31) <|
            getK (List.set l11 ((0:Nat)+Int.toNat i25) (D.sl Tag.fresh (cut (0:Nat) (List.length l28) l28))) ((0:Nat)+Int.toNat i26) fun d32=>
            sif ((0:Nat)+List.length l31≤List.length l31) <|
            sif (D.isAgg d32=false) <|
            sif (List.length l11=List.length (List.set (List.set l11 ((0:Nat)+Int.toNat i25) (D.sl Tag.fresh (cut (0:Nat) (List.length l28) l28))) ((0:Nat)+Int.toNat i26) (D.sl Tag.fresh (cut (0:Nat) (List.length l31) l31)))) <|
            sif (List.all (List.set (List.set l11 ((0:Nat)+Int.toNat i25) (D.sl Tag.fresh (cut (0:Nat) (List.length l28) l28))) ((0:Nat)+Int.toNat i26) (D.sl Tag.fresh (cut (0:Nat) (List.length l31) l31))) D.free=true) <|
            some (D.tup [D.sl Tag.own (List.set (List.set l11 ((0:Nat)+Int.toNat i25) (D.sl Tag.fresh (cut (0:Nat) (List.length l28) l28))) ((0:Nat)+Int.toNat i26) (D.sl Tag.fresh (cut (0:Nat) (List.length l31) l31))),D.bool true]))
            (sif (List.length l11=List.length (List.set l11 ((0:Nat)+Int.toNat i25) (D.sl Tag.fresh (cut (0:Nat) (List.length l28) l28)))) <|
            sif (List.all (List.set l11 ((0:Nat)+Int.toNat i25) (D.sl Tag.fresh (cut (0:Nat) (List.length l28) l28))) D.free=true) <|
            some (D.tup [D.sl Tag.own (List.set l11 ((0:Nat)+Int.toNat i25) (D.sl Tag.fresh (cut (0:Nat) (List.length l28) l28))),D.bool true]))))
        (((a1,a2,(a0_0,a0_1,a0_2,PUnit.unit),List.replicate (Int.toNat a0_1) (D.sl Tag.nil []),a2,(↑(List.length a2):Int),(0:Int),PUnit.unit),PUnit.unit))))
theorem zne (zar:List D→Option D) (zac:List D→Option D) (zbb:List D→Option D) (zaz:List D→Option D) (zbI:List D→Option D) (zbJ:List D→Option D) (tga2:Tag) (a0_0:Int) (a0_1:Int) (a0_2:Int) (a1:Int) (a2:List D):denP Try.prog (zaA [(ID.wattleref01_fine,(.pure [0] zar)),(ID.wattleref01_Width,(.pure [0] zac)),(ID.wattleref01_Disk,(.pure [0] zbb)),(ID.wattleref01_Parity,(.pure [0,0] zaz)),(ID.wattleref01_P,(.pure [1] zbI)),(ID.wattleref01_Q,(.pure [1] zbJ))]) zf6 [1,0] ID.wattleref01_Fill [.agg [.int .i64 a0_0,.int .i64 a0_1,.int .i64 a0_2],.int .i64 a1,.sl tga2 a2]=zeW zar zac zbb zaz zbI zbJ a0_0 a0_1 a0_2 a1 (D.lentL a2):=by kernel_rfl
theorem zj7 (tga2:Tag) (a0_0:Int) (a0_1:Int) (a0_2:Int) (a1:Int) (a2:List D):zaI [.agg [.int .i64 a0_0,.int .i64 a0_1,.int .i64 a0_2],.int .i64 a1,.sl tga2 a2]=zeW zar zac zbb zaz zbI zbJ a0_0 a0_1 a0_2 a1 (D.lentL a2):=zne zar zac zbb zaz zbI zbJ tga2 a0_0 a0_1 a0_2 a1 a2
def zhm:Ann:={ loops:=[],ks:=[(3840,false)] }
noncomputable def zan:List D→List Tb→Option Ans:=denS Try.prog (zaA []) zhm [0] ID.bench_Bench_is
theorem zlk:za2 Try.prog ID.bench_Bench_is (.st [] [0] [(3840,false)] zan):=za9 (zaC []) zbA ⟨Try.f66,by kernel_rfl,by kernel_rfl,by kernel_rfl⟩
noncomputable def zdh:Fact Try.prog:=⟨ID.bench_Bench_is,(.st [] [0] [(3840,false)] zan),zlk⟩
noncomputable def zfV (a0:Nat) (a1:Int) (T0:Tb):Option Ans:=
  brK (decide (a1≥(0:Int)))
    (getK T0 a0 fun d1=>
    getK d1 ((3:Nat)) fun d2=>
    za4 d2 fun l3=>
    getK T0 a0 fun d4=>
    getK d4 ((3:Nat)) fun d5=>
    za4 d5 fun l6=>
    sif ((0:Nat)+List.length l3≤List.length l6) <|
    some (Ans.mk (D.bool (decide (a1 < (↑(List.length l3):Int)))) [] []))
    (some (Ans.mk (D.bool false) [] []))
theorem zo1 (a0:Nat) (a1:Int) (T0:Tb):denS Try.prog (zaA []) zhm [0] ID.bench_Bench_is [.h 3840 a0 0,.int .i64 a1] [T0]=zfV a0 a1 T0:=by kernel_rfl
theorem zmg (a0:Nat) (a1:Int) (T0:Tb):zan [.h 3840 a0 0,.int .i64 a1] [T0]=zfV a0 a1 T0:=zo1 a0 a1 T0
def zh4:Ann:={ loops:=[],ks:=[(7649,false)] }
noncomputable def zaU:List D→List Tb→Option Ans:=denS Try.prog (zaA []) zh4 [0] ID.disk_Disk_may
theorem zmh:za2 Try.prog ID.disk_Disk_may (.st [] [0] [(7649,false)] zaU):=za9 (zaC []) zbA ⟨Try.f118,by kernel_rfl,by kernel_rfl,by kernel_rfl⟩
noncomputable def zhn:Fact Try.prog:=⟨ID.disk_Disk_may,(.st [] [0] [(7649,false)] zaU),zmh⟩
noncomputable def zgQ (a0:Nat) (a1:Int) (T0:Tb):Option Ans:=
  getK T0 a0 fun d1=>
  getK d1 ((1665:Nat)) fun d2=>
  asB d2 fun b3=>
  brK b3
    (some (Ans.mk (D.int IntKind.i64 (5:Int)) [] []))
    (brK (decide (a1 < (0:Int)))
      (some (Ans.mk (D.int IntKind.i64 (4:Int)) [] []))
      (brK (decide (a1≥(52:Int)))
        (some (Ans.mk (D.int IntKind.i64 (4:Int)) [] []))
        (some (Ans.mk (D.int IntKind.i64 (0:Int)) [] []))))
theorem zqA (a0:Nat) (a1:Int) (T0:Tb):denS Try.prog (zaA []) zh4 [0] ID.disk_Disk_may [.h 7649 a0 0,.int .i64 a1] [T0]=zgQ a0 a1 T0:=by kernel_rfl
theorem znf (a0:Nat) (a1:Int) (T0:Tb):zaU [.h 7649 a0 0,.int .i64 a1] [T0]=zgQ a0 a1 T0:=zqA a0 a1 T0
def zh5:Ann:={ loops:=[],ks:=[(7649,false)] }
noncomputable def zaV:List D→List Tb→Option Ans:=denS Try.prog (zaA [(ID.disk_Disk_may,(.st [] [0] [(7649,false)] zaU))]) zh5 [0,0] ID.disk_Disk_put
theorem zmi:za2 Try.prog ID.disk_Disk_put (.st [] [0,0] [(7649,false)] zaV):=za9 (zaC [zhn]) zbA ⟨Try.f124,by kernel_rfl,by kernel_rfl,by kernel_rfl⟩
noncomputable def zho:Fact Try.prog:=⟨ID.disk_Disk_put,(.st [] [0,0] [(7649,false)] zaV),zmi⟩
noncomputable def zgR (zaU:List D→List Tb→Option Ans) (a0:Nat) (a1:Int) (a2:List D) (T0:Tb):Option Ans:=
  zat (zaU [D.h (7649:Nat) a0 (0:Nat),D.int IntKind.i64 a1] [T0]) fun r1=>
  nilK r1.outs <|
  nilK r1.tbs <|
  asI IntKind.i64 r1.r fun i2=>
  brK (i2 != (0:Int))
    (some (Ans.mk (D.tup [D.agg [D.int IntKind.i64 (0:Int),D.int IntKind.u8 (0:Int),D.int IntKind.u8 (0:Int),D.int IntKind.u8 (0:Int),D.int IntKind.u8 (0:Int),D.int IntKind.u8 (0:Int),D.int IntKind.u8 (0:Int),D.int IntKind.u8 (0:Int),D.int IntKind.u8 (0:Int),D.int IntKind.u8 (0:Int),D.int IntKind.u8 (0:Int),D.int IntKind.u8 (0:Int),D.int IntKind.u8 (0:Int),D.int IntKind.u8 (0:Int),D.int IntKind.u8 (0:Int),D.int IntKind.u8 (0:Int),D.int IntKind.u8 (0:Int),D.int IntKind.u8 (0:Int),D.int IntKind.u8 (0:Int),D.int IntKind.u8 (0:Int),D.int IntKind.u8 (0:Int),D.int IntKind.u8 (0:Int),D.int IntKind.u8 (0:Int),D.int IntKind.u8 (0:Int),D.int IntKind.u8 (0:Int),D.int IntKind.u8 (0:Int),D.int IntKind.u8 (0:Int),D.int IntKind.u8 (0:Int),D.int IntKind.u8 (0:Int),D.int IntKind.u8 (0:Int),D.int IntKind.u8 (0:Int),D.int IntKind.u8 (0:Int),D.int IntKind.u8 (0:Int)],D.int IntKind.i64 i2]) [] []))
    (brK ((↑(List.length a2):Int) != (32:Int))
      (some (Ans.mk (D.tup [D.agg [D.int IntKind.i64 (0:Int),D.int IntKind.u8 (0:Int),D.int IntKind.u8 (0:Int),D.int IntKind.u8 (0:Int),D.int IntKind.u8 (0:Int),D.int IntKind.u8 (0:Int),D.int IntKind.u8 (0:Int),D.int IntKind.u8 (0:Int),D.int IntKind.u8 (0:Int),D.int IntKind.u8 (0:Int),D.int IntKind.u8 (0:Int),D.int IntKind.u8 (0:Int),D.int IntKind.u8 (0:Int),D.int IntKind.u8 (0:Int),D.int IntKind.u8 (0:Int),D.int IntKind.u8 (0:Int),D.int IntKind.u8 (0:Int),D.int IntKind.u8 (0:Int),D.int IntKind.u8 (0:Int),D.int IntKind.u8 (0:Int),D.int IntKind.u8 (0:Int),D.int IntKind.u8 (0:Int),D.int IntKind.u8 (0:Int),D.int IntKind.u8 (0:Int),D.int IntKind.u8 (0:Int),D.int IntKind.u8 (0:Int),D.int IntKind.u8 (0:Int),D.int IntKind.u8 (0:Int),D.int IntKind.u8 (0:Int),D.int IntKind.u8 (0:Int),D.int IntKind.u8 (0:Int),D.int IntKind.u8 (0:Int),D.int IntKind.u8 (0:Int)],D.int IntKind.i64 (1:Int)]) [] []))
      (sif (cells a2=true) <|
      sif (List.length a2=(32:Nat)) <|
      sif ((33:Nat)≤List.length ([D.int IntKind.i64 a1]++(a2++[]))) <|
      zaB ([Lf.int IntKind.i64,Lf.arr (32)]) (List.take (33:Nat) (List.drop (0:Nat) ([D.int IntKind.i64 a1]++(a2++[])))) fun c3=>
      sif (List.length ([D.int IntKind.i64 c3.fst]++(c3.snd.fst++[]))=(33:Nat)) <|
      sif ((33:Nat)≤List.length ([D.int IntKind.i64 c3.fst]++(c3.snd.fst++[]))) <|
      zaB ([Lf.int IntKind.i64,Lf.arr (32)]) (List.take (33:Nat) (List.drop (0:Nat) ([D.int IntKind.i64 c3.fst]++(c3.snd.fst++[])))) fun c4=>
      sif (D.free (D.agg ([D.int IntKind.i64 c4.fst]++(c4.snd.fst++[])))=true) <|
      some (Ans.mk (D.tup [D.agg ([D.int IntKind.i64 c4.fst]++(c4.snd.fst++[])),D.int IntKind.i64 (0:Int)]) [] [])))
theorem zqB (zaU:List D→List Tb→Option Ans) (tga2:Tag) (a0:Nat) (a1:Int) (a2:List D) (T0:Tb):denS Try.prog (zaA [(ID.disk_Disk_may,(.st [] [0] [(7649,false)] zaU))]) zh5 [0,0] ID.disk_Disk_put [.h 7649 a0 0,.int .i64 a1,.sl tga2 a2] [T0]=zgR zaU a0 a1 (D.lentL a2) T0:=by kernel_rfl
theorem zng (tga2:Tag) (a0:Nat) (a1:Int) (a2:List D) (T0:Tb):zaV [.h 7649 a0 0,.int .i64 a1,.sl tga2 a2] [T0]=zgR zaU a0 a1 (D.lentL a2) T0:=zqB zaU tga2 a0 a1 a2 T0
def zcs:Ann:={ loops:=[] }
noncomputable def zad:List D→Option D:=denE Try.prog (zaA []) zcs [33] ID.slices_Clone_disk_write_disk_write
theorem zdz:za2 Try.prog ID.slices_Clone_disk_write_disk_write (.pure [33] zad):=zr4 (zaC []) zbA ⟨Try.f121,by kernel_rfl,by kernel_rfl,by kernel_rfl⟩
noncomputable def zco:Fact Try.prog:=⟨ID.slices_Clone_disk_write_disk_write,(.pure [33] zad),zdz⟩
noncomputable def zb2 (a0:D) (b0:List D):Option D:=
  sif (List.length (a0::b0)≤(4294967296:Nat)) <|
  sif (zd3 (33:Nat) (a0::b0)=true) <|
  sif (List.length (a0::b0)=List.length (a0::b0)) <|
  sif (List.all (a0::b0) D.free=true) <|
  some (D.sl Tag.own (a0::b0))
theorem zej (tga0:Tag) (a0:D) (b0:List D):denE Try.prog (zaA []) zcs [33] ID.slices_Clone_disk_write_disk_write [.sl tga0 (a0::b0)]=zb2 (D.lent a0) (D.lentL b0):=by kernel_rfl
theorem zdM (tga0:Tag) (a0:D) (b0:List D):zad [.sl tga0 (a0::b0)]=zb2 (D.lent a0) (D.lentL b0):=zej tga0 a0 b0
theorem zdA (tg:Tag):zad [.sl tg []]=some (.sl .own []):=(zoL (some (.sl .own [])))
def zff:Ann:={ loops:=[],hints:=[(1,.at1 (.int .i64))] }
noncomputable def zaF:List D→Option D:=denP Try.prog (zaA []) zff [0] ID.disk_Disk_Damage_1
theorem zh6:za2 Try.prog ID.disk_Disk_Damage_1 (.pure [0] zaF):=zau (zaC []) zbA ⟨Try.f126,by kernel_rfl,by kernel_rfl,by kernel_rfl⟩
noncomputable def zeX:Fact Try.prog:=⟨ID.disk_Disk_Damage_1,(.pure [0] zaF),zh6⟩
noncomputable def zd8 (a0:List D) (c0:Int):Option D:=
  zaB ([Lf.int IntKind.i64,Lf.arr (32)]) a0 fun c1=>
  some (D.bool (c1.fst == c0))
theorem zll (a0:List D) (c0:Int):denP Try.prog (zaA []) zff [0] ID.disk_Disk_Damage_1 [.agg a0,.at_ (.int .i64 c0)]=zd8 (D.lentL a0) c0:=by kernel_rfl
theorem ziI (a0:List D) (c0:Int):zaF [.agg a0,.at_ (.int .i64 c0)]=zd8 (D.lentL a0) c0:=zll a0 c0
def zcf:Ann:={ loops:=[(0,[.val (.cell .lent),.val (.fn1 (126:FuncId) (.int .i64)),.dead,.dead,.dead,.dead,.dead,.val (.cell (.int .i64)),.val (.cell (.int .i64))])] }
noncomputable def zao:List D→Option D:=denP Try.prog (zaA [(ID.disk_Disk_Damage_1,(.pure [0] zaF))]) zcf [0] ID.slices_IndexFunc_disk_write_disk_write
theorem zdb:za2 Try.prog ID.slices_IndexFunc_disk_write_disk_write (.pure [0] zao):=zau (zaC [zeX]) zbA ⟨Try.f139,by kernel_rfl,by kernel_rfl,by kernel_rfl⟩
noncomputable def zdi:Fact Try.prog:=⟨ID.slices_IndexFunc_disk_write_disk_write,(.pure [0] zao),zdb⟩
noncomputable def zbB (zaF:List D→Option D) (a0:List D) (c0:Int):Option D:=
  zce (α:=(List D×Int×Int×Int×PUnit)×PUnit) (fun again1 ((l2,(i3,(i4,(i5,_)))),_)=>
    brK (decide (i5 < i4))
      (sif ((0:Int)≤i5) <|
      getK l2 (Int.toNat i5) fun d6=>
      asAgg d6 fun cs7=>
      zaB ([Lf.int IntKind.i64,Lf.arr (32)]) cs7 fun c8=>
      sif (D.width (D.agg ([D.int IntKind.i64 c8.fst]++(c8.snd.fst++[])))=(33:Nat)) <|
      zaB ([Lf.int IntKind.i64,Lf.arr (32)]) ([D.int IntKind.i64 c8.fst]++(c8.snd.fst++[])) fun c9=>
      sif (D.width (D.agg ([D.int IntKind.i64 c9.fst]++(c9.snd.fst++[])))=(33:Nat)) <|
      zat (zaF [D.agg ([D.int IntKind.i64 c9.fst]++(c9.snd.fst++[])),D.at_ (D.int IntKind.i64 i3)]) fun r10=>
      asB r10 fun b11=>
      brK b11
        (some (D.int IntKind.i64 i5))
        (letN (IntKind.wrap IntKind.i64 (i5+(1:Int))) fun n12=>
        again1 (((l2,i3,i4,n12,PUnit.unit),PUnit.unit))))
      (some (D.int IntKind.i64 (-1:Int))))
    (((a0,c0,(↑(List.length a0):Int),(0:Int),PUnit.unit),PUnit.unit))
theorem zcZ (zaF:List D→Option D) (tga0:Tag) (a0:List D) (c0:Int):denP Try.prog (zaA [(ID.disk_Disk_Damage_1,(.pure [0] zaF))]) zcf [0] ID.slices_IndexFunc_disk_write_disk_write [.sl tga0 a0,.fn 126 [] [.at_ (.int .i64 c0)]]=zbB zaF (D.lentL a0) c0:=by kernel_rfl
theorem zcI (tga0:Tag) (a0:List D) (c0:Int):zao [.sl tga0 a0,.fn 126 [] [.at_ (.int .i64 c0)]]=zbB zaF (D.lentL a0) c0:=zcZ zaF tga0 a0 c0
def zcc:Ann:={ loops:=[(1,[.own 33,.val (.fn1 (126:FuncId) (.int .i64)),.dead,.dead,.dead,.val (.cell (.int .i64)),.val (.cell (.int .i64))])],pms:=[(.own,33)] }
noncomputable def zaj:List D→List Tb→Option Ans:=denS Try.prog (zaA [(ID.slices_IndexFunc_disk_write_disk_write,(.pure [0] zao)),(ID.disk_Disk_Damage_1,(.pure [0] zaF))]) zcc [33] ID.slices_DeleteFunc_disk_write_disk_write
theorem zc8:za2 Try.prog ID.slices_DeleteFunc_disk_write_disk_write (.st [(.own,33)] [33] [] zaj):=za9 (zaC [zdi,zeX]) zbA ⟨Try.f125,by kernel_rfl,by kernel_rfl,by kernel_rfl⟩
noncomputable def zdc:Fact Try.prog:=⟨ID.slices_DeleteFunc_disk_write_disk_write,(.st [(.own,33)] [33] [] zaj),zc8⟩
noncomputable def zbr (zao:List D→Option D) (zaF:List D→Option D) (a0:List D) (c0:Int):Option Ans:=
  sif ((0:Nat)+List.length a0≤List.length a0) <|
  zat (zao [D.sl Tag.lent (cut (0:Nat) (List.length a0) a0),D.fn (126:FuncId) [] [D.at_ (D.int IntKind.i64 c0)]]) fun r1=>
  asI IntKind.i64 r1 fun i2=>
  brK (i2 == (-1:Int))
    (sif (List.length a0=List.length a0) <|
    sif (List.all a0 D.free=true) <|
    some (Ans.mk (D.sl Tag.own a0) [] []))
    (letN (IntKind.wrap IntKind.i64 (i2+(1:Int))) fun n3=>
    none)
theorem zcP (zao:List D→Option D) (zaF:List D→Option D) (a0:List D) (c0:Int):denS Try.prog (zaA [(ID.slices_IndexFunc_disk_write_disk_write,(.pure [0] zao)),(ID.disk_Disk_Damage_1,(.pure [0] zaF))]) zcc [33] ID.slices_DeleteFunc_disk_write_disk_write [.sl .own a0,.fn 126 [] [.at_ (.int .i64 c0)]] []=zbr zao zaF a0 c0:=by kernel_rfl
theorem zcG (a0:List D) (c0:Int):zaj [.sl .own a0,.fn 126 [] [.at_ (.int .i64 c0)]] []=zbr zao zaF a0 c0:=zcP zao zaF a0 c0
def zf7:Ann:={ loops:=[],ks:=[(7649,true)] }
noncomputable def zbl:List D→List Tb→Option Ans:=denS Try.prog (zaA [(ID.disk_Disk_put,(.st [] [0,0] [(7649,false)] zaV)),(ID.slices_Clone_disk_write_disk_write,(.pure [33] zad)),(ID.slices_DeleteFunc_disk_write_disk_write,(.st [(.own,33)] [33] [] zaj))]) zf7 [0] ID.disk_Disk_Damage
theorem zjm:za2 Try.prog ID.disk_Disk_Damage (.st [] [0] [(7649,true)] zbl):=za9 (zaC [zho,zco,zdc]) zbA ⟨Try.f100,by kernel_rfl,by kernel_rfl,by kernel_rfl⟩
noncomputable def zj8:Fact Try.prog:=⟨ID.disk_Disk_Damage,(.st [] [0] [(7649,true)] zbl),zjm⟩
noncomputable def zeY (zaV:List D→List Tb→Option Ans) (zad:List D→Option D) (zaj:List D→List Tb→Option Ans) (a0:Nat) (a1:Int) (a2:List D) (T0:Tb):Option Ans:=
  zat (zaV [D.h (7649:Nat) a0 (0:Nat),D.int IntKind.i64 a1,D.sl Tag.lent a2] [T0]) fun r1=>
  nilK r1.outs <|
  nilK r1.tbs <|
  zeq r1.r fun ts2=>
  zaB ([Lf.any,Lf.any]) ts2 fun c3=>
  asAgg c3.fst fun cs4=>
  zaB ([Lf.int IntKind.i64,Lf.arr (32)]) cs4 fun c5=>
  asI IntKind.i64 c3.snd.fst fun i6=>
  sif (List.length ([D.int IntKind.i64 c5.fst]++(c5.snd.fst++[]))=(33:Nat)) <|
  brK (i6 != (0:Int))
    (some (Ans.mk (D.int IntKind.i64 i6) [] [T0]))
    (sif ((33:Nat)≤List.length ([D.int IntKind.i64 c5.fst]++(c5.snd.fst++[]))) <|
    sif (List.length (List.take (32:Nat) (List.drop (1:Nat) ([D.int IntKind.i64 c5.fst]++(c5.snd.fst++[]))))=(32:Nat)) <|
    sif ((0:Int)≤a1) <|
    sif (Int.toNat a1 < (52:Nat)) <|
    getK T0 a0 fun d7=>
    sif ((0:Nat)+Int.toNat a1*(32:Nat)+(32:Nat)≤List.length d7) <|
    sif (List.length (List.take (32:Nat) (List.drop (1:Nat) ([D.int IntKind.i64 c5.fst]++(c5.snd.fst++[]))))=(32:Nat)) <|
    sif (zhu (List.take (32:Nat) (List.drop (1:Nat) ([D.int IntKind.i64 c5.fst]++(c5.snd.fst++[]))))=true) <|
    sif (zhu (List.take (32:Nat) (List.drop ((0:Nat)+Int.toNat a1*(32:Nat)) d7))=true) <|
    letT (zaW T0 a0 ((0:Nat)+Int.toNat a1*(32:Nat)) (List.take (32:Nat) (List.drop (1:Nat) ([D.int IntKind.i64 c5.fst]++(c5.snd.fst++[]))))) fun U8=>
    getK U8 a0 fun d9=>
    getK d9 ((1664:Nat)) fun d10=>
    za4 d10 fun l11=>
    getK U8 a0 fun d12=>
    getK d12 ((1664:Nat)) fun d13=>
    za4 d13 fun l14=>
    sif ((0:Nat)+List.length l11≤List.length l14) <|
    zat (zad [D.sl Tag.lent (cut (0:Nat) (List.length l11) l14)]) fun r15=>
    za4 r15 fun l16=>
    sif (List.length l16=List.length l16) <|
    sif (zc6 l16=true) <|
    zat (zaj [D.sl Tag.own l16,D.fn (126:Nat) [] [D.at_ (D.int IntKind.i64 a1)]] []) fun r17=>
    nilK r17.outs <|
    nilK r17.tbs <|
    za4 r17.r fun l18=>
    sif ((0:Nat)+List.length l18≤List.length l18) <|
    getK U8 a0 fun d19=>
    sif ((1665:Nat)≤List.length d19) <|
    sif (List.length l18=List.length l18) <|
    sif (zc6 l18=true) <|
    sif (zfH (33:Nat) l18=true) <|
    letT (zaW U8 a0 (1664:Nat) [D.sl Tag.own l18]) fun U20=>
    some (Ans.mk (D.int IntKind.i64 (0:Int)) [] [U20]))
theorem znh (zaV:List D→List Tb→Option Ans) (zad:List D→Option D) (zaj:List D→List Tb→Option Ans) (tga2:Tag) (a0:Nat) (a1:Int) (a2:List D) (T0:Tb):denS Try.prog (zaA [(ID.disk_Disk_put,(.st [] [0,0] [(7649,false)] zaV)),(ID.slices_Clone_disk_write_disk_write,(.pure [33] zad)),(ID.slices_DeleteFunc_disk_write_disk_write,(.st [(.own,33)] [33] [] zaj))]) zf7 [0] ID.disk_Disk_Damage [.h 7649 a0 0,.int .i64 a1,.sl tga2 a2] [T0]=zeY zaV zad zaj a0 a1 (D.lentL a2) T0:=by kernel_rfl
theorem zj9 (tga2:Tag) (a0:Nat) (a1:Int) (a2:List D) (T0:Tb):zbl [.h 7649 a0 0,.int .i64 a1,.sl tga2 a2] [T0]=zeY zaV zad zaj a0 a1 (D.lentL a2) T0:=znh zaV zad zaj tga2 a0 a1 a2 T0
def zfg:Ann:={ loops:=[],ks:=[(3840,false),(7649,true)] }
noncomputable def za7:List D→List Tb→Option Ans:=denS Try.prog (zaA [(ID.bench_Bench_is,(.st [] [0] [(3840,false)] zan)),(ID.disk_Disk_Damage,(.st [] [0] [(7649,true)] zbl))]) zfg [0] ID.bench_Bench_Damage
theorem zh7:za2 Try.prog ID.bench_Bench_Damage (.st [] [0] [(3840,false),(7649,true)] za7):=za9 (zaC [zdh,zj8]) zbA ⟨Try.f65,by kernel_rfl,by kernel_rfl,by kernel_rfl⟩
noncomputable def ziJ:Fact Try.prog:=⟨ID.bench_Bench_Damage,(.st [] [0] [(3840,false),(7649,true)] za7),zh7⟩
noncomputable def zd9 (zan:List D→List Tb→Option Ans) (zbl:List D→List Tb→Option Ans) (a0:Nat) (a1:Int) (a2:Int) (a3:List D) (T0:Tb) (T1:Tb):Option Ans:=
  zat (zan [D.h (3840:Nat) a0 (0:Nat),D.int IntKind.i64 a1] [T0]) fun r1=>
  nilK r1.outs <|
  nilK r1.tbs <|
  asB r1.r fun b2=>
  brK (!b2)
    (some (Ans.mk (D.int IntKind.i64 (1:Int)) [] [T1]))
    (getK T0 a0 fun d3=>
    getK d3 ((3:Nat)) fun d4=>
    za4 d4 fun l5=>
    getK T0 a0 fun d6=>
    getK d6 ((3:Nat)) fun d7=>
    za4 d7 fun l8=>
    sif ((0:Int)≤a1) <|
    sif (Int.toNat a1 < List.length l5) <|
    getK T0 a0 fun d9=>
    getK d9 ((3:Nat)) fun d10=>
    za4 d10 fun l11=>
    getK l11 ((0:Nat)+Int.toNat a1) fun d12=>
    sif (D.isAgg d12=false) <|
    sif (D.width d12=(1:Nat)) <|
    sif (D.cell d12=true) <|
    zat (zbl [d12,D.int IntKind.i64 a2,D.sl Tag.lent a3] [T1]) fun r13=>
    nilK r13.outs <|
    zer r13.tbs fun c14 q15=>
    nilK q15 <|
    asI IntKind.i64 r13.r fun i16=>
    some (Ans.mk (D.int IntKind.i64 i16) [] [c14]))
theorem zlm (zan:List D→List Tb→Option Ans) (zbl:List D→List Tb→Option Ans) (tga3:Tag) (a0:Nat) (a1:Int) (a2:Int) (a3:List D) (T0:Tb) (T1:Tb):denS Try.prog (zaA [(ID.bench_Bench_is,(.st [] [0] [(3840,false)] zan)),(ID.disk_Disk_Damage,(.st [] [0] [(7649,true)] zbl))]) zfg [0] ID.bench_Bench_Damage [.h 3840 a0 0,.int .i64 a1,.int .i64 a2,.sl tga3 a3] [T0,T1]=zd9 zan zbl a0 a1 a2 (D.lentL a3) T0 T1:=by kernel_rfl
theorem ziK (tga3:Tag) (a0:Nat) (a1:Int) (a2:Int) (a3:List D) (T0:Tb) (T1:Tb):za7 [.h 3840 a0 0,.int .i64 a1,.int .i64 a2,.sl tga3 a3] [T0,T1]=zd9 zan zbl a0 a1 a2 (D.lentL a3) T0 T1:=zlm zan zbl tga3 a0 a1 a2 a3 T0 T1
def zfh:Ann:={ loops:=[(1,[.dead,.val (.cell (.int .i64)),.val (.cell .lent),.box true [(.int .i64),(.int .i64),(.int .i64)],.dead,.dead,.dead,.ptr 3840,.dead,.val (.cell (.int .i64))]),(3,[.dead,.val (.cell (.int .i64)),.val (.cell .lent),.box true [(.int .i64),(.int .i64),(.int .i64)],.dead,.dead,.dead,.ptr 3840,.dead,.val (.cell (.int .i64)),.own 1,.val (.cell .bool),.val (.cell (.int .i64))])],ks:=[(3840,true),(7649,true)] }
noncomputable def zaZ:List D→List Tb→Option Ans:=denS Try.prog (zaA [(ID.bench_New,(.st [] [0,0] [(3840,true),(7649,true)] zbq)),(ID.wattleref01_Width,(.pure [0] zac)),(ID.wattleplay_Sectors,(.pure [1] zak)),(ID.wattleref01_Fill,(.pure [1,0] zaI)),(ID.bench_Bench_Damage,(.st [] [0] [(3840,false),(7649,true)] za7))]) zfh [0] ID.wattlelaw14_Filled
theorem zh8:za2 Try.prog ID.wattlelaw14_Filled (.st [] [0] [(3840,true),(7649,true)] zaZ):=za9 (zaC [zlI,zci,zdg,zfP,ziJ]) zbA ⟨Try.f17,by kernel_rfl,by kernel_rfl,by kernel_rfl⟩
noncomputable def ziL:Fact Try.prog:=⟨ID.wattlelaw14_Filled,(.st [] [0] [(3840,true),(7649,true)] zaZ),zh8⟩
noncomputable def zea (zbq:List D→List Tb→Option Ans) (zac:List D→Option D) (zak:List D→Option D) (zaI:List D→Option D) (za7:List D→List Tb→Option Ans) (a0_0:Int) (a0_1:Int) (a0_2:Int) (a1:Int) (a2:List D) (T0:Tb) (T1:Tb):Option Ans:=
  zat (zbq [D.int IntKind.i64 a1] [T0,T1]) fun r1=>
  nilK r1.outs <|
  zer r1.tbs fun c2 q3=>
  zer q3 fun c4 q5=>
  nilK q5 <|
  zeq r1.r fun ts6=>
  zaB ([Lf.any,Lf.any]) ts6 fun c7=>
  sif (zi2 c7.fst=true) <|
  asI IntKind.i64 c7.snd.fst fun i8=>
  brK (i8 != (0:Int))
    (some (Ans.mk D.nilp [] [c2,c4]))
    (znL c7.fst fun b9=>
    brK b9
      (some (Ans.mk D.nilp [] [c2,c4]))
      (zce (α:=(Int×List D×(Int×Int×Int×PUnit)×D×Int×PUnit)×List (List D)×List (List D)×PUnit) (fun again10 ((i11,(l12,((i13,(i14,(i15,_))),(x16,(i17,_))))),(U18,(U19,_)))=>
        brK (decide (i17 < (16:Int)))
          (letN (min i17 (↑(List.length l12):Int)) fun n20=>
          sif ((0:Int)≤n20) <|
          sif (n20≤(↑(List.length l12):Int)) <|
          sif ((↑(List.length l12):Int)≤(↑(List.length l12):Int)) <|
          sif ((↑(List.length l12):Int)=(↑(List.length l12):Int)) <|
          sif (zvI (1:Nat) l12=true) <|
          zat (zac [D.agg [D.int IntKind.i64 i13,D.int IntKind.i64 i14,D.int IntKind.i64 i15]]) fun r21=>
          asI IntKind.i64 r21 fun i22=>
          zat (zak [D.sl (zdU Tag.lent false (decide ((↑(List.length l12):Int)=(↑(List.length l12):Int)))) (cutI n20 (↑(List.length l12):Int) l12),D.int IntKind.i64 i22]) fun r23=>
          za4 r23 fun l24=>
          sif ((0:Nat)+List.length l24≤List.length l24) <|
          zat (zaI [D.agg [D.int IntKind.i64 i13,D.int IntKind.i64 i14,D.int IntKind.i64 i15],D.int IntKind.i64 i17,D.sl Tag.lent (cut (0:Nat) (List.length l24) l24)]) fun r25=>
          zeq r25 fun ts26=>
          zaB ([Lf.any,Lf.any]) ts26 fun c27=>
          za4 c27.fst fun l28=>
          asB c27.snd.fst fun b29=>
          sif (List.length l28=List.length l28) <|
          zce (α:=(Int×List D×(Int×Int×Int×PUnit)×D×Int×List D×Bool×Int×PUnit)×List (List D)×List (List D)×PUnit) (fun again30 ((i31,(l32,((i33,(i34,(i35,_))),(x36,(i37,(l38,(b39,(i40,_)))))))),(U41,(U42,_)))=>
            brK b39
              (sif ((0:Nat)+List.length l38≤List.length l38) <|
              brK (decide (i40 < (↑(List.length l38):Int)))
                (brK (decide (i40 < i31))
                  (letN (IntKind.wrap IntKind.i64 ((36:Int)+i37)) fun n43=>
                  sif ((0:Int)≤i40) <|
                  sif (Int.toNat i40 < List.length l38) <|
                  getK l38 ((0:Nat)+Int.toNat i40) fun d44=>
                  asSl d44 fun t45 l46=>
                  zat (za7 [x36,D.int IntKind.i64 i40,D.int IntKind.i64 n43,D.sl t45 l46] [U41,U42]) fun r47=>
                  nilK r47.outs <|
                  zer r47.tbs fun c48 q49=>
                  nilK q49 <|
                  asI IntKind.i64 r47.r fun i50=>
                  letN (IntKind.wrap IntKind.i64 (i40+(1:Int))) fun n51=>
                  sif (List.length l38=List.length l38) <|
                  again30 (((i31,l32,(i33,i34,i35,PUnit.unit),x36,i37,l38,b39,n51,PUnit.unit),U41,c48,PUnit.unit)))
                  (letN (IntKind.wrap IntKind.i64 (i37+(1:Int))) fun n52=>
                  again10 (((i31,l32,(i33,i34,i35,PUnit.unit),x36,n52,PUnit.unit),U41,U42,PUnit.unit))))
                (letN (IntKind.wrap IntKind.i64 (i37+(1:Int))) fun n53=>
                again10 (((i31,l32,(i33,i34,i35,PUnit.unit),x36,n53,PUnit.unit),U41,U42,PUnit.unit))))
              (letN (IntKind.wrap IntKind.i64 (i37+(1:Int))) fun n54=>
              again10 (((i31,l32,(i33,i34,i35,PUnit.unit),x36,n54,PUnit.unit),U41,U42,PUnit.unit))))
            (((i11,l12,(i13,i14,i15,PUnit.unit),x16,i17,l28,b29,(0:Int),PUnit.unit),U18,U19,PUnit.unit)))
          (sif (D.free x16=true) <|
          some (Ans.mk x16 [] [U18,U19])))
        (((a1,a2,(a0_0,a0_1,a0_2,PUnit.unit),c7.fst,(0:Int),PUnit.unit),c2,c4,PUnit.unit))))
theorem zln (zbq:List D→List Tb→Option Ans) (zac:List D→Option D) (zak:List D→Option D) (zaI:List D→Option D) (za7:List D→List Tb→Option Ans) (tga2:Tag) (a0_0:Int) (a0_1:Int) (a0_2:Int) (a1:Int) (a2:List D) (T0:Tb) (T1:Tb):denS Try.prog (zaA [(ID.bench_New,(.st [] [0,0] [(3840,true),(7649,true)] zbq)),(ID.wattleref01_Width,(.pure [0] zac)),(ID.wattleplay_Sectors,(.pure [1] zak)),(ID.wattleref01_Fill,(.pure [1,0] zaI)),(ID.bench_Bench_Damage,(.st [] [0] [(3840,false),(7649,true)] za7))]) zfh [0] ID.wattlelaw14_Filled [.agg [.int .i64 a0_0,.int .i64 a0_1,.int .i64 a0_2],.int .i64 a1,.sl tga2 a2] [T0,T1]=zea zbq zac zak zaI za7 a0_0 a0_1 a0_2 a1 (D.lentL a2) T0 T1:=by kernel_rfl
theorem ziM (tga2:Tag) (a0_0:Int) (a0_1:Int) (a0_2:Int) (a1:Int) (a2:List D) (T0:Tb) (T1:Tb):zaZ [.agg [.int .i64 a0_0,.int .i64 a0_1,.int .i64 a0_2],.int .i64 a1,.sl tga2 a2] [T0,T1]=zea zbq zac zak zaI za7 a0_0 a0_1 a0_2 a1 (D.lentL a2) T0 T1:=zln zbq zac zak zaI za7 tga2 a0_0 a0_1 a0_2 a1 a2 T0 T1
def zgS:Ann:={ loops:=[(0,[.val (.cell (.int .i64)),.val (.cell (.int .i64)),.dead,.dead,.dead,.own 1,.dead,.dead,.dead,.dead,.val (.cell (.int .i64)),.val (.cell (.int .i64))])] }
noncomputable def zbw:List D→Option D:=denP Try.prog (zaA [(ID.wattlekeep_Within,(.pure [0] zaa))]) zgS [1] ID.wattleplay_Live
theorem zka:za2 Try.prog ID.wattleplay_Live (.pure [1] zbw):=zau (zaC [zcK]) zbA ⟨Try.f18,by kernel_rfl,by kernel_rfl,by kernel_rfl⟩
noncomputable def zlo:Fact Try.prog:=⟨ID.wattleplay_Live,(.pure [1] zbw),zka⟩
noncomputable def zfr (zaa:List D→Option D) (a0:Int) (a1:Int):Option D:=
  sif ((0:Int)≤a1) <|
  sif (a1=a1) <|
  sif (a1*(1:Int)≤(140737488355328:Int)) <|
  sif (a1≤(140737488355328:Int)) <|
  sif ((0:Nat)+Int.toNat a1≤List.length (List.replicate (Int.toNat a1) (D.bool false))) <|
  sif (Int.toNat a1=List.length (List.replicate (Int.toNat a1) (D.bool false))) <|
  zce (α:=(Int×Int×List D×Int×Int×PUnit)×PUnit) (fun again1 ((i2,(i3,(l4,(i5,(i6,_))))),_)=>
    brK (decide (i6 < i5))
      (sif ((0:Int)≤i6) <|
      sif (Int.toNat i6 < List.length l4) <|
      getK l4 ((0:Nat)+Int.toNat i6) fun d7=>
      sif (D.isAgg d7=false) <|
      letN (IntKind.wrap IntKind.i64 (i6+(1:Int))) fun n8=>
      sif (List.length l4=List.length (List.set l4 ((0:Nat)+Int.toNat i6) (D.bool true))) <|
      again1 (((i2,i3,List.set l4 ((0:Nat)+Int.toNat i6) (D.bool true),i5,n8,PUnit.unit),PUnit.unit)))
      (brK (decide (i3 > (0:Int)))
        (zat (zaa [D.int IntKind.i64 i2,D.int IntKind.i64 (3:Int)]) fun r9=>
        asI IntKind.i64 r9 fun i10=>
        brK (decide (i10 > (0:Int)))
          (letN (IntKind.wrap IntKind.i64 (Int.tdiv i2 (3:Int))) fun n11=>
          zat (zaa [D.int IntKind.i64 n11,D.int IntKind.i64 i3]) fun r12=>
          asI IntKind.i64 r12 fun i13=>
          sif ((0:Int)≤i13) <|
          sif (Int.toNat i13 < List.length l4) <|
          getK l4 ((0:Nat)+Int.toNat i13) fun d14=>
          sif (D.isAgg d14=false) <|
          brK (decide (i3 > (0:Int)))
            (zat (zaa [D.int IntKind.i64 i2,D.int IntKind.i64 (9:Int)]) fun r15=>
            asI IntKind.i64 r15 fun i16=>
            brK (i16 == (8:Int))
              (letN (IntKind.wrap IntKind.i64 (Int.tdiv i2 (27:Int))) fun n17=>
              zat (zaa [D.int IntKind.i64 n17,D.int IntKind.i64 i3]) fun r18=>
              asI IntKind.i64 r18 fun i19=>
              sif ((0:Int)≤i19) <|
              sif (Int.toNat i19 < List.length l4) <|
              getK (List.set l4 ((0:Nat)+Int.toNat i13) (D.bool false)) ((0:Nat)+Int.toNat i19) fun d20=>
              sif (D.isAgg d20=false) <|
              sif (List.length l4=List.length (List.set (List.set l4 ((0:Nat)+Int.toNat i13) (D.bool false)) ((0:Nat)+Int.toNat i19) (D.bool false))) <|
              sif (List.all (List.set (List.set l4 ((0:Nat)+Int.toNat i13) (D.bool false)) ((0:Nat)+Int.toNat i19) (D.bool false)) D.free=true) <|
              some (D.sl Tag.own (List.set (List.set l4 ((0:Nat)+Int.toNat i13) (D.bool false)) ((0:Nat)+Int.toNat i19) (D.bool false))))
              (sif (List.length l4=List.length (List.set l4 ((0:Nat)+Int.toNat i13) (D.bool false))) <|
              sif (List.all (List.set l4 ((0:Nat)+Int.toNat i13) (D.bool false)) D.free=true) <|
              some (D.sl Tag.own (List.set l4 ((0:Nat)+Int.toNat i13) (D.bool false)))))
            (sif (List.length l4=List.length (List.set l4 ((0:Nat)+Int.toNat i13) (D.bool false))) <|
            sif (List.all (List.set l4 ((0:Nat)+Int.toNat i13) (D.bool false)) D.free=true) <|
            some (D.sl Tag.own (List.set l4 ((0:Nat)+Int.toNat i13) (D.bool false)))))
          (brK (decide (i3 > (0:Int)))
            (zat (zaa [D.int IntKind.i64 i2,D.int IntKind.i64 (9:Int)]) fun r21=>
            asI IntKind.i64 r21 fun i22=>
            brK (i22 == (8:Int))
              (letN (IntKind.wrap IntKind.i64 (Int.tdiv i2 (27:Int))) fun n23=>
              zat (zaa [D.int IntKind.i64 n23,D.int IntKind.i64 i3]) fun r24=>
              asI IntKind.i64 r24 fun i25=>
              sif ((0:Int)≤i25) <|
              sif (Int.toNat i25 < List.length l4) <|
              getK l4 ((0:Nat)+Int.toNat i25) fun d26=>
              sif (D.isAgg d26=false) <|
              sif (List.length l4=List.length (List.set l4 ((0:Nat)+Int.toNat i25) (D.bool false))) <|
              sif (List.all (List.set l4 ((0:Nat)+Int.toNat i25) (D.bool false)) D.free=true) <|
              some (D.sl Tag.own (List.set l4 ((0:Nat)+Int.toNat i25) (D.bool false))))
              (sif (List.length l4=List.length l4) <|
              sif (List.all l4 D.free=true) <|
              some (D.sl Tag.own l4)))
            (sif (List.length l4=List.length l4) <|
            sif (List.all l4 D.free=true) <|
            some (D.sl Tag.own l4))))
        (brK (decide (i3 > (0:Int)))
          (zat (zaa [D.int IntKind.i64 i2,D.int IntKind.i64 (9:Int)]) fun r27=>
          asI IntKind.i64 r27 fun i28=>
          brK (i28 == (8:Int))
            (letN (IntKind.wrap IntKind.i64 (Int.tdiv i2 (27:Int))) fun n29=>
            zat (zaa [D.int IntKind.i64 n29,D.int IntKind.i64 i3]) fun r30=>
            asI IntKind.i64 r30 fun i31=>
            sif ((0:Int)≤i31) <|
            sif (Int.toNat i31 < List.length l4) <|
            getK l4 ((0:Nat)+Int.toNat i31) fun d32=>
            sif (D.isAgg d32=false) <|
            sif (List.length l4=List.length (List.set l4 ((0:Nat)+Int.toNat i31) (D.bool false))) <|
            sif (List.all (List.set l4 ((0:Nat)+Int.toNat i31) (D.bool false)) D.free=true) <|
            some (D.sl Tag.own (List.set l4 ((0:Nat)+Int.toNat i31) (D.bool false))))
            (sif (List.length l4=List.length l4) <|
            sif (List.all l4 D.free=true) <|
            some (D.sl Tag.own l4)))
          (sif (List.length l4=List.length l4) <|
          sif (List.all l4 D.free=true) <|
          some (D.sl Tag.own l4)))))
    (((a0,a1,List.replicate (Int.toNat a1) (D.bool false),(↑(Int.toNat a1):Int),(0:Int),PUnit.unit),PUnit.unit))
theorem zn6 (zaa:List D→Option D) (a0:Int) (a1:Int):denP Try.prog (zaA [(ID.wattlekeep_Within,(.pure [0] zaa))]) zgS [1] ID.wattleplay_Live [.int .i64 a0,.int .i64 a1]=zfr zaa a0 a1:=by kernel_rfl
theorem zlp (a0:Int) (a1:Int):zbw [.int .i64 a0,.int .i64 a1]=zfr zaa a0 a1:=zn6 zaa a0 a1
def zhp:Ann:={ loops:=[],ks:=[(7649,true)] }
noncomputable def zbD:List D→List Tb→Option Ans:=denS Try.prog (zaA []) zhp [] ID.disk_Disk_Fail
theorem zlq:za2 Try.prog ID.disk_Disk_Fail (.st [] [] [(7649,true)] zbD):=za9 (zaC []) zbA ⟨Try.f67,by kernel_rfl,by kernel_rfl,by kernel_rfl⟩
noncomputable def zmj:Fact Try.prog:=⟨ID.disk_Disk_Fail,(.st [] [] [(7649,true)] zbD),zlq⟩
noncomputable def zfW (a0:Nat) (T0:Tb):Option Ans:=
  getK T0 a0 fun d1=>
  sif ((1666:Nat)≤List.length d1) <|
  letT (zaW T0 a0 (0:Nat) (List.map D.own0 (List.set (List.reverse ([D.bool false,D.sl Tag.nil []]++List.replicate 1664 (D.int IntKind.u8 (0:Int)))) (1665:Nat) (D.bool true)))) fun U2=>
  some (Ans.mk (D.tup []) [] [U2])
theorem zo2 (a0:Nat) (T0:Tb):denS Try.prog (zaA []) zhp [] ID.disk_Disk_Fail [.h 7649 a0 0] [T0]=zfW a0 T0:=by kernel_rfl
theorem zmk (a0:Nat) (T0:Tb):zbD [.h 7649 a0 0] [T0]=zfW a0 T0:=zo2 a0 T0
def zf8:Ann:={ loops:=[],ks:=[(3840,false),(7649,true)] }
noncomputable def zbc:List D→List Tb→Option Ans:=denS Try.prog (zaA [(ID.bench_Bench_is,(.st [] [0] [(3840,false)] zan)),(ID.disk_Disk_Fail,(.st [] [] [(7649,true)] zbD))]) zf8 [0] ID.bench_Bench_Fail
theorem zjn:za2 Try.prog ID.bench_Bench_Fail (.st [] [0] [(3840,false),(7649,true)] zbc):=za9 (zaC [zdh,zmj]) zbA ⟨Try.f19,by kernel_rfl,by kernel_rfl,by kernel_rfl⟩
noncomputable def zkb:Fact Try.prog:=⟨ID.bench_Bench_Fail,(.st [] [0] [(3840,false),(7649,true)] zbc),zjn⟩
noncomputable def zeZ (zan:List D→List Tb→Option Ans) (zbD:List D→List Tb→Option Ans) (a0:Nat) (a1:Int) (T0:Tb) (T1:Tb):Option Ans:=
  zat (zan [D.h (3840:Nat) a0 (0:Nat),D.int IntKind.i64 a1] [T0]) fun r1=>
  nilK r1.outs <|
  nilK r1.tbs <|
  asB r1.r fun b2=>
  brK (!b2)
    (some (Ans.mk (D.int IntKind.i64 (1:Int)) [] [T1]))
    (getK T0 a0 fun d3=>
    getK d3 ((3:Nat)) fun d4=>
    za4 d4 fun l5=>
    getK T0 a0 fun d6=>
    getK d6 ((3:Nat)) fun d7=>
    za4 d7 fun l8=>
    sif ((0:Int)≤a1) <|
    sif (Int.toNat a1 < List.length l5) <|
    getK T0 a0 fun d9=>
    getK d9 ((3:Nat)) fun d10=>
    za4 d10 fun l11=>
    getK l11 ((0:Nat)+Int.toNat a1) fun d12=>
    sif (D.isAgg d12=false) <|
    sif (D.width d12=(1:Nat)) <|
    sif (D.cell d12=true) <|
    zat (zbD [d12] [T1]) fun r13=>
    nilK r13.outs <|
    zer r13.tbs fun c14 q15=>
    nilK q15 <|
    zeq r13.r fun ts16=>
    nilK ts16 <|
    some (Ans.mk (D.int IntKind.i64 (0:Int)) [] [c14]))
theorem zni (zan:List D→List Tb→Option Ans) (zbD:List D→List Tb→Option Ans) (a0:Nat) (a1:Int) (T0:Tb) (T1:Tb):denS Try.prog (zaA [(ID.bench_Bench_is,(.st [] [0] [(3840,false)] zan)),(ID.disk_Disk_Fail,(.st [] [] [(7649,true)] zbD))]) zf8 [0] ID.bench_Bench_Fail [.h 3840 a0 0,.int .i64 a1] [T0,T1]=zeZ zan zbD a0 a1 T0 T1:=by kernel_rfl
theorem zkc (a0:Nat) (a1:Int) (T0:Tb) (T1:Tb):zbc [.h 3840 a0 0,.int .i64 a1] [T0,T1]=zeZ zan zbD a0 a1 T0 T1:=zni zan zbD a0 a1 T0 T1
def zf9:Ann:={ loops:=[],ks:=[(7649,false)] }
noncomputable def zbm:List D→List Tb→Option Ans:=denS Try.prog (zaA []) zf9 [0] ID.disk_Disk_Failed
theorem zjo:za2 Try.prog ID.disk_Disk_Failed (.st [] [0] [(7649,false)] zbm):=za9 (zaC []) zbA ⟨Try.f84,by kernel_rfl,by kernel_rfl,by kernel_rfl⟩
noncomputable def zkd:Fact Try.prog:=⟨ID.disk_Disk_Failed,(.st [] [0] [(7649,false)] zbm),zjo⟩
noncomputable def ze0 (a0:Nat) (T0:Tb):Option Ans:=
  getK T0 a0 fun d1=>
  getK d1 ((1665:Nat)) fun d2=>
  asB d2 fun b3=>
  some (Ans.mk (D.bool b3) [] [])
theorem znj (a0:Nat) (T0:Tb):denS Try.prog (zaA []) zf9 [0] ID.disk_Disk_Failed [.h 7649 a0 0] [T0]=ze0 a0 T0:=by kernel_rfl
theorem zke (a0:Nat) (T0:Tb):zbm [.h 7649 a0 0] [T0]=ze0 a0 T0:=znj a0 T0
def zfi:Ann:={ loops:=[],ks:=[(3840,false),(7649,false)] }
noncomputable def zal:List D→List Tb→Option Ans:=denS Try.prog (zaA [(ID.bench_Bench_is,(.st [] [0] [(3840,false)] zan)),(ID.disk_Disk_Failed,(.st [] [0] [(7649,false)] zbm))]) zfi [0] ID.bench_Bench_Failed
theorem zh9:za2 Try.prog ID.bench_Bench_Failed (.st [] [0] [(3840,false),(7649,false)] zal):=za9 (zaC [zdh,zkd]) zbA ⟨Try.f41,by kernel_rfl,by kernel_rfl,by kernel_rfl⟩
noncomputable def zdj:Fact Try.prog:=⟨ID.bench_Bench_Failed,(.st [] [0] [(3840,false),(7649,false)] zal),zh9⟩
noncomputable def zeb (zan:List D→List Tb→Option Ans) (zbm:List D→List Tb→Option Ans) (a0:Nat) (a1:Int) (T0:Tb) (T1:Tb):Option Ans:=
  zat (zan [D.h (3840:Nat) a0 (0:Nat),D.int IntKind.i64 a1] [T0]) fun r1=>
  nilK r1.outs <|
  nilK r1.tbs <|
  asB r1.r fun b2=>
  brK b2
    (getK T0 a0 fun d3=>
    getK d3 ((3:Nat)) fun d4=>
    za4 d4 fun l5=>
    getK T0 a0 fun d6=>
    getK d6 ((3:Nat)) fun d7=>
    za4 d7 fun l8=>
    sif ((0:Int)≤a1) <|
    sif (Int.toNat a1 < List.length l5) <|
    getK T0 a0 fun d9=>
    getK d9 ((3:Nat)) fun d10=>
    za4 d10 fun l11=>
    getK l11 ((0:Nat)+Int.toNat a1) fun d12=>
    sif (D.isAgg d12=false) <|
    sif (D.width d12=(1:Nat)) <|
    sif (D.cell d12=true) <|
    zat (zbm [d12] [T1]) fun r13=>
    nilK r13.outs <|
    nilK r13.tbs <|
    asB r13.r fun b14=>
    some (Ans.mk (D.bool b14) [] []))
    (some (Ans.mk (D.bool false) [] []))
theorem zlr (zan:List D→List Tb→Option Ans) (zbm:List D→List Tb→Option Ans) (a0:Nat) (a1:Int) (T0:Tb) (T1:Tb):denS Try.prog (zaA [(ID.bench_Bench_is,(.st [] [0] [(3840,false)] zan)),(ID.disk_Disk_Failed,(.st [] [0] [(7649,false)] zbm))]) zfi [0] ID.bench_Bench_Failed [.h 3840 a0 0,.int .i64 a1] [T0,T1]=zeb zan zbm a0 a1 T0 T1:=by kernel_rfl
theorem ziN (a0:Nat) (a1:Int) (T0:Tb) (T1:Tb):zal [.h 3840 a0 0,.int .i64 a1] [T0,T1]=zeb zan zbm a0 a1 T0 T1:=zlr zan zbm a0 a1 T0 T1
def zgT:Ann:={ loops:=[],ks:=[(3840,false)] }
noncomputable def zav:List D→List Tb→Option Ans:=denS Try.prog (zaA []) zgT [0] ID.bench_Bench_Len
theorem zkf:za2 Try.prog ID.bench_Bench_Len (.st [] [0] [(3840,false)] zav):=za9 (zaC []) zbA ⟨Try.f68,by kernel_rfl,by kernel_rfl,by kernel_rfl⟩
noncomputable def zec:Fact Try.prog:=⟨ID.bench_Bench_Len,(.st [] [0] [(3840,false)] zav),zkf⟩
noncomputable def zfs (a0:Nat) (T0:Tb):Option Ans:=
  getK T0 a0 fun d1=>
  getK d1 ((3:Nat)) fun d2=>
  za4 d2 fun l3=>
  getK T0 a0 fun d4=>
  getK d4 ((3:Nat)) fun d5=>
  za4 d5 fun l6=>
  sif ((0:Nat)+List.length l3≤List.length l6) <|
  some (Ans.mk (D.int IntKind.i64 (↑(List.length l3):Int)) [] [])
theorem zn7 (a0:Nat) (T0:Tb):denS Try.prog (zaA []) zgT [0] ID.bench_Bench_Len [.h 3840 a0 0] [T0]=zfs a0 T0:=by kernel_rfl
theorem zls (a0:Nat) (T0:Tb):zav [.h 3840 a0 0] [T0]=zfs a0 T0:=zn7 a0 T0
def zga:Ann:={ loops:=[(0,[.val (.cell (.hnd (3840:Nat))),.val (.cell .lent),.dead,.dead,.dead,.box true [(.int .i64),(.int .i64),(.int .i64)],.dead,.map (.int .i64),.val (.cell (.int .i64))])],ks:=[(3840,false),(7649,false)] }
noncomputable def zbn:List D→List Tb→Option Ans:=denS Try.prog (zaA [(ID.bench_Bench_Failed,(.st [] [0] [(3840,false),(7649,false)] zal)),(ID.bench_Bench_Len,(.st [] [0] [(3840,false)] zav))]) zga [0] ID.wattlelaw14_lost
theorem zjp:za2 Try.prog ID.wattlelaw14_lost (.st [] [0] [(3840,false),(7649,false)] zbn):=za9 (zaC [zdj,zec]) zbA ⟨Try.f20,by kernel_rfl,by kernel_rfl,by kernel_rfl⟩
noncomputable def zkg:Fact Try.prog:=⟨ID.wattlelaw14_lost,(.st [] [0] [(3840,false),(7649,false)] zbn),zjp⟩
noncomputable def ze1 (zal:List D→List Tb→Option Ans) (zav:List D→List Tb→Option Ans) (a0:Nat) (a1:List D) (a2_0:Int) (a2_1:Int) (a2_2:Int) (T0:Tb) (T1:Tb):Option Ans:=
  zce (α:=(Nat×List D×(Int×Int×Int×PUnit)×List (Int×D)×Int×PUnit)×List (List D)×List (List D)×PUnit) (fun again1 ((x2,(l3,((i4,(i5,(i6,_))),(l7,(i8,_))))),(U9,(U10,_)))=>
    brK (decide (i8 < i5))
      (brK (decide (i8≥(↑(List.length l3):Int)))
        (letN (IntKind.wrap IntKind.i64 (i8+(1:Int))) fun n11=>
        again1 (((x2,l3,(i4,i5,i6,PUnit.unit),setD i8 (D.bool true) l7,n11,PUnit.unit),U9,U10,PUnit.unit)))
        (sif ((0:Int)≤i8) <|
        getK l3 (Int.toNat i8) fun d12=>
        asB d12 fun b13=>
        brK (!b13)
          (letN (IntKind.wrap IntKind.i64 (i8+(1:Int))) fun n14=>
          again1 (((x2,l3,(i4,i5,i6,PUnit.unit),setD i8 (D.bool true) l7,n14,PUnit.unit),U9,U10,PUnit.unit)))
          (zat (zal [D.h (3840) x2 (0:Nat),D.int IntKind.i64 i8] [U9,U10]) fun r15=>
          nilK r15.outs <|
          nilK r15.tbs <|
          asB r15.r fun b16=>
          brK b16
            (letN (IntKind.wrap IntKind.i64 (i8+(1:Int))) fun n17=>
            again1 (((x2,l3,(i4,i5,i6,PUnit.unit),setD i8 (D.bool true) l7,n17,PUnit.unit),U9,U10,PUnit.unit)))
            (zat (zav [D.h (3840) x2 (0:Nat)] [U9]) fun r18=>
            nilK r18.outs <|
            nilK r18.tbs <|
            asI IntKind.i64 r18.r fun i19=>
            brK (decide (i8≥i19))
              (letN (IntKind.wrap IntKind.i64 (i8+(1:Int))) fun n20=>
              again1 (((x2,l3,(i4,i5,i6,PUnit.unit),setD i8 (D.bool true) l7,n20,PUnit.unit),U9,U10,PUnit.unit)))
              (letN (IntKind.wrap IntKind.i64 (i8+(1:Int))) fun n21=>
              again1 (((x2,l3,(i4,i5,i6,PUnit.unit),l7,n21,PUnit.unit),U9,U10,PUnit.unit)))))))
      (sif (D.freeE l7=true) <|
      some (Ans.mk (D.mp Tag.own (MK.int IntKind.i64) l7) [] [])))
    (((a0,a1,(a2_0,a2_1,a2_2,PUnit.unit),[],(0:Int),PUnit.unit),T0,T1,PUnit.unit))
theorem znk (zal:List D→List Tb→Option Ans) (zav:List D→List Tb→Option Ans) (tga1:Tag) (a0:Nat) (a1:List D) (a2_0:Int) (a2_1:Int) (a2_2:Int) (T0:Tb) (T1:Tb):denS Try.prog (zaA [(ID.bench_Bench_Failed,(.st [] [0] [(3840,false),(7649,false)] zal)),(ID.bench_Bench_Len,(.st [] [0] [(3840,false)] zav))]) zga [0] ID.wattlelaw14_lost [.h 3840 a0 0,.sl tga1 a1,.agg [.int .i64 a2_0,.int .i64 a2_1,.int .i64 a2_2]] [T0,T1]=ze1 zal zav a0 (D.lentL a1) a2_0 a2_1 a2_2 T0 T1:=by kernel_rfl
theorem zkh (tga1:Tag) (a0:Nat) (a1:List D) (a2_0:Int) (a2_1:Int) (a2_2:Int) (T0:Tb) (T1:Tb):zbn [.h 3840 a0 0,.sl tga1 a1,.agg [.int .i64 a2_0,.int .i64 a2_1,.int .i64 a2_2]] [T0,T1]=ze1 zal zav a0 (D.lentL a1) a2_0 a2_1 a2_2 T0 T1:=znk zal zav tga1 a0 a1 a2_0 a2_1 a2_2 T0 T1
def zeH:Ann:={ loops:=[(0,[.val (.cell .lent),.val (.cell (.int .i64)),.dead,.dead,.dead,.dead,.dead,.val (.cell (.int .i64)),.val (.cell (.int .i64))])] }
noncomputable def za3:List D→Option D:=denP Try.prog (zaA []) zeH [0] ID.slices_Index_int_int
theorem zg7:za2 Try.prog ID.slices_Index_int_int (.pure [0] za3):=zau (zaC []) zbA ⟨Try.f87,by kernel_rfl,by kernel_rfl,by kernel_rfl⟩
noncomputable def zhw:Fact Try.prog:=⟨ID.slices_Index_int_int,(.pure [0] za3),zg7⟩
noncomputable def zds (a0:List D) (a1:Int):Option D:=
  zce (α:=(List D×Int×Int×Int×PUnit)×PUnit) (fun again1 ((l2,(i3,(i4,(i5,_)))),_)=>
    brK (decide (i5 < i4))
      (sif ((0:Int)≤i5) <|
      getK l2 (Int.toNat i5) fun d6=>
      asI IntKind.i64 d6 fun i7=>
      brK (i3 == i7)
        (some (D.int IntKind.i64 i5))
        (letN (IntKind.wrap IntKind.i64 (i5+(1:Int))) fun n8=>
        again1 (((l2,i3,i4,n8,PUnit.unit),PUnit.unit))))
      (some (D.int IntKind.i64 (-1:Int))))
    (((a0,a1,(↑(List.length a0):Int),(0:Int),PUnit.unit),PUnit.unit))
theorem zjq (tga0:Tag) (a0:List D) (a1:Int):denP Try.prog (zaA []) zeH [0] ID.slices_Index_int_int [.sl tga0 a0,.int .i64 a1]=zds (D.lentL a0) a1:=by kernel_rfl
theorem zhx (tga0:Tag) (a0:List D) (a1:Int):za3 [.sl tga0 a0,.int .i64 a1]=zds (D.lentL a0) a1:=zjq tga0 a0 a1
def zdN:Ann:={ loops:=[] }
noncomputable def zaO:List D→Option D:=denP Try.prog (zaA [(ID.slices_Index_int_int,(.pure [0] za3))]) zdN [0] ID.slices_Contains_int_int
theorem zfX:za2 Try.prog ID.slices_Contains_int_int (.pure [0] zaO):=zau (zaC [zhw]) zbA ⟨Try.f101,by kernel_rfl,by kernel_rfl,by kernel_rfl⟩
noncomputable def zgl:Fact Try.prog:=⟨ID.slices_Contains_int_int,(.pure [0] zaO),zfX⟩
noncomputable def zc3 (za3:List D→Option D) (a0:List D) (a1:Int):Option D:=
  zat (za3 [D.sl Tag.lent a0,D.int IntKind.i64 a1]) fun r1=>
  asI IntKind.i64 r1 fun i2=>
  some (D.bool (decide (i2≥(0:Int))))
theorem zhy (za3:List D→Option D) (tga0:Tag) (a0:List D) (a1:Int):denP Try.prog (zaA [(ID.slices_Index_int_int,(.pure [0] za3))]) zdN [0] ID.slices_Contains_int_int [.sl tga0 a0,.int .i64 a1]=zc3 za3 (D.lentL a0) a1:=by kernel_rfl
theorem zgm (tga0:Tag) (a0:List D) (a1:Int):zaO [.sl tga0 a0,.int .i64 a1]=zc3 za3 (D.lentL a0) a1:=zhy za3 tga0 a0 a1
def zlJ:Ann:={ loops:=[] }
noncomputable def zas:List D→Option D:=denP Try.prog (zaA [(ID.slices_Contains_int_int,(.pure [0] zaO))]) zlJ [0] ID.geom_Check
theorem zo3:za2 Try.prog ID.geom_Check (.pure [0] zas):=zau (zaC [zgl]) zbA ⟨Try.f69,by kernel_rfl,by kernel_rfl,by kernel_rfl⟩
noncomputable def zdO:Fact Try.prog:=⟨ID.geom_Check,(.pure [0] zas),zo3⟩
noncomputable def zki (zaO:List D→Option D) (a0_0:Int) (a0_1:Int) (a0_2:Int):Option D:=
  asI IntKind.i64 (zp0 a0_0 (D.int IntKind.i64 (0:Int)) (setD (6:Int) (D.int IntKind.i64 (4:Int)) (setD (5:Int) (D.int IntKind.i64 (3:Int)) []))) fun i1=>
  brK (i1 == (0:Int))
    (some (D.int IntKind.i64 (1:Int)))
    (brK (decide (a0_1 < i1))
      (some (D.int IntKind.i64 (1:Int)))
      (brK (decide (a0_1 > (8:Int)))
        (some (D.int IntKind.i64 (1:Int)))
        (zat (zaO [D.sl Tag.full [D.int IntKind.i64 (1:Int),D.int IntKind.i64 (2:Int),D.int IntKind.i64 (4:Int)],D.int IntKind.i64 a0_2]) fun r2=>
        asB r2 fun b3=>
        brK (!b3)
          (some (D.int IntKind.i64 (1:Int)))
          (some (D.int IntKind.i64 (0:Int))))))
theorem zu7 (zaO:List D→Option D) (a0_0:Int) (a0_1:Int) (a0_2:Int):denP Try.prog (zaA [(ID.slices_Contains_int_int,(.pure [0] zaO))]) zlJ [0] ID.geom_Check [.agg [.int .i64 a0_0,.int .i64 a0_1,.int .i64 a0_2]]=zki zaO a0_0 a0_1 a0_2:=by kernel_rfl
theorem zqC (a0_0:Int) (a0_1:Int) (a0_2:Int):zas [.agg [.int .i64 a0_0,.int .i64 a0_1,.int .i64 a0_2]]=zki zaO a0_0 a0_1 a0_2:=zu7 zaO a0_0 a0_1 a0_2
def znl:Ann:={ loops:=[],ks:=[(3840,false),(7649,false)] }
noncomputable def za1:List D→List Tb→Option Ans:=denS Try.prog (zaA [(ID.bench_Bench_Len,(.st [] [0] [(3840,false)] zav)),(ID.bench_Bench_Failed,(.st [] [0] [(3840,false),(7649,false)] zal))]) znl [0] ID.stripe_up
theorem zqD:za2 Try.prog ID.stripe_up (.st [] [0] [(3840,false),(7649,false)] za1):=za9 (zaC [zec,zdj]) zbA ⟨Try.f70,by kernel_rfl,by kernel_rfl,by kernel_rfl⟩
noncomputable def zhz:Fact Try.prog:=⟨ID.stripe_up,(.st [] [0] [(3840,false),(7649,false)] za1),zqD⟩
noncomputable def zml (zav:List D→List Tb→Option Ans) (zal:List D→List Tb→Option Ans) (a0:Nat) (a1:List D) (a2:Int) (T0:Tb) (T1:Tb):Option Ans:=
  zat (zav [D.h (3840:Nat) a0 (0:Nat)] [T0]) fun r1=>
  nilK r1.outs <|
  nilK r1.tbs <|
  asI IntKind.i64 r1.r fun i2=>
  brK (decide (a2 < i2))
    (brK (decide (a2 < (↑(List.length a1):Int)))
      (sif ((0:Int)≤a2) <|
      getK a1 (Int.toNat a2) fun d3=>
      asB d3 fun b4=>
      brK b4
        (zat (zal [D.h (3840:Nat) a0 (0:Nat),D.int IntKind.i64 a2] [T0,T1]) fun r5=>
        nilK r5.outs <|
        nilK r5.tbs <|
        asB r5.r fun b6=>
        some (Ans.mk (D.bool !b6) [] []))
        (some (Ans.mk (D.bool false) [] [])))
      (some (Ans.mk (D.bool false) [] [])))
    (some (Ans.mk (D.bool false) [] []))
theorem zwh (zav:List D→List Tb→Option Ans) (zal:List D→List Tb→Option Ans) (tga1:Tag) (a0:Nat) (a1:List D) (a2:Int) (T0:Tb) (T1:Tb):denS Try.prog (zaA [(ID.bench_Bench_Len,(.st [] [0] [(3840,false)] zav)),(ID.bench_Bench_Failed,(.st [] [0] [(3840,false),(7649,false)] zal))]) znl [0] ID.stripe_up [.h 3840 a0 0,.sl tga1 a1,.int .i64 a2] [T0,T1]=zml zav zal a0 (D.lentL a1) a2 T0 T1:=by kernel_rfl
theorem zrc (tga1:Tag) (a0:Nat) (a1:List D) (a2:Int) (T0:Tb) (T1:Tb):za1 [.h 3840 a0 0,.sl tga1 a1,.int .i64 a2] [T0,T1]=zml zav zal a0 (D.lentL a1) a2 T0 T1:=zwh zav zal tga1 a0 a1 a2 T0 T1
def zgU:Ann:={ loops:=[],ks:=[(3840,false)] }
noncomputable def zaw:List D→List Tb→Option Ans:=denS Try.prog (zaA [(ID.bench_Bench_is,(.st [] [0] [(3840,false)] zan))]) zgU [0] ID.bench_Bench_may
theorem zkj:za2 Try.prog ID.bench_Bench_may (.st [] [0] [(3840,false)] zaw):=za9 (zaC [zdh]) zbA ⟨Try.f85,by kernel_rfl,by kernel_rfl,by kernel_rfl⟩
noncomputable def zed:Fact Try.prog:=⟨ID.bench_Bench_may,(.st [] [0] [(3840,false)] zaw),zkj⟩
noncomputable def zft (zan:List D→List Tb→Option Ans) (a0:Nat) (a1:Int) (T0:Tb):Option Ans:=
  zat (zan [D.h (3840:Nat) a0 (0:Nat),D.int IntKind.i64 a1] [T0]) fun r1=>
  nilK r1.outs <|
  nilK r1.tbs <|
  asB r1.r fun b2=>
  brK (!b2)
    (some (Ans.mk (D.int IntKind.i64 (1:Int)) [] []))
    (getK T0 a0 fun d3=>
    getK d3 ((2:Nat)) fun d4=>
    asB d4 fun b5=>
    brK b5
      (some (Ans.mk (D.int IntKind.i64 (6:Int)) [] []))
      (some (Ans.mk (D.int IntKind.i64 (0:Int)) [] [])))
theorem zn8 (zan:List D→List Tb→Option Ans) (a0:Nat) (a1:Int) (T0:Tb):denS Try.prog (zaA [(ID.bench_Bench_is,(.st [] [0] [(3840,false)] zan))]) zgU [0] ID.bench_Bench_may [.h 3840 a0 0,.int .i64 a1] [T0]=zft zan a0 a1 T0:=by kernel_rfl
theorem zlt (a0:Nat) (a1:Int) (T0:Tb):zaw [.h 3840 a0 0,.int .i64 a1] [T0]=zft zan a0 a1 T0:=zn8 zan a0 a1 T0
def zd2:Ann:={ loops:=[] }
noncomputable def zam:List D→Option D:=denE Try.prog (zaA []) zd2 [1] ID.slices_Clone_byte_byte
theorem zgn:za2 Try.prog ID.slices_Clone_byte_byte (.pure [1] zam):=zr4 (zaC []) zbA ⟨Try.f109,by kernel_rfl,by kernel_rfl,by kernel_rfl⟩
noncomputable def zdP:Fact Try.prog:=⟨ID.slices_Clone_byte_byte,(.pure [1] zam),zgn⟩
noncomputable def zc9 (a0:D) (b0:List D):Option D:=
  sif (List.length (a0::b0)≤(4294967296:Nat)) <|
  sif (zd3 (1:Nat) (a0::b0)=true) <|
  sif (List.length (a0::b0)=List.length (a0::b0)) <|
  sif (List.all (a0::b0) D.free=true) <|
  some (D.sl Tag.own (a0::b0))
theorem zia (tga0:Tag) (a0:D) (b0:List D):denE Try.prog (zaA []) zd2 [1] ID.slices_Clone_byte_byte [.sl tga0 (a0::b0)]=zc9 (D.lent a0) (D.lentL b0):=by kernel_rfl
theorem zgV (tga0:Tag) (a0:D) (b0:List D):zam [.sl tga0 (a0::b0)]=zc9 (D.lent a0) (D.lentL b0):=zia tga0 a0 b0
theorem zgo (tg:Tag):zam [.sl tg []]=some (.sl .own []):=(zoL (some (.sl .own [])))
def zhq:Ann:={ loops:=[(1,[.dead,.val (.cell (.int .i64)),.dead,.dead,.dead,.dead,.dead,.box true [(.arr 32)],.dead,.dead,.dead,.dead,.dead,.dead,.dead,.dead,.dead,.dead,.dead,.dead,.dead,.dead,.dead,.dead,.dead,.view 7649 1664,.val (.cell (.int .i64)),.val (.cell (.int .i64))])],ks:=[(7649,false)] }
noncomputable def zbE:List D→List Tb→Option Ans:=denS Try.prog (zaA [(ID.disk_Disk_may,(.st [] [0] [(7649,false)] zaU)),(ID.slices_Clone_byte_byte,(.pure [1] zam))]) zhq [1,0] ID.disk_Disk_Read
theorem zlu:za2 Try.prog ID.disk_Disk_Read (.st [] [1,0] [(7649,false)] zbE):=za9 (zaC [zhn,zdP]) zbA ⟨Try.f86,by kernel_rfl,by kernel_rfl,by kernel_rfl⟩
noncomputable def zmm:Fact Try.prog:=⟨ID.disk_Disk_Read,(.st [] [1,0] [(7649,false)] zbE),zlu⟩
noncomputable def zfY (zaU:List D→List Tb→Option Ans) (zam:List D→Option D) (a0:Nat) (a1:Int) (T0:Tb):Option Ans:=
  zat (zaU [D.h (7649:Nat) a0 (0:Nat),D.int IntKind.i64 a1] [T0]) fun r1=>
  nilK r1.outs <|
  nilK r1.tbs <|
  asI IntKind.i64 r1.r fun i2=>
  brK (i2 != (0:Int))
    (some (Ans.mk (D.tup [D.sl Tag.own [],D.int IntKind.i64 i2]) [] []))
    (sif ((0:Int)≤a1) <|
    sif (Int.toNat a1 < (52:Nat)) <|
    getK T0 a0 fun d3=>
    sif ((0:Nat)+Int.toNat a1*(32:Nat)+(32:Nat)≤List.length d3) <|
    sif (zhu (List.take (32:Nat) (List.drop ((0:Nat)+Int.toNat a1*(32:Nat)) d3))=true) <|
    sif (List.length (List.take (32:Nat) (List.drop ((0:Nat)+Int.toNat a1*(32:Nat)) d3))=(32:Nat)) <|
    sif (List.length (List.take (32:Nat) (List.drop ((0:Nat)+Int.toNat a1*(32:Nat)) d3))=(32:Nat)) <|
    getK T0 a0 fun d4=>
    getK d4 ((1664:Nat)) fun d5=>
    za4 d5 fun l6=>
    getK T0 a0 fun d7=>
    getK d7 ((1664:Nat)) fun d8=>
    za4 d8 fun l9=>
    sif ((0:Nat)+List.length l6≤List.length l9) <|
    zaB ([Lf.arr (32)]) (List.take (32:Nat) (List.drop ((0:Nat)+Int.toNat a1*(32:Nat)) d3)) fun c10=>
    zce (α:=(Int×(List D×PUnit)×(Nat×Nat×Nat)×Int×Int×PUnit)×List (List D)×PUnit) (fun again11 ((i12,((l13,_),((x14,(x15,x16)),(i17,(i18,_))))),(U19,_))=>
      brK (decide (i18 < i17))
        (getK U19 x14 fun d20=>
        getK d20 ((1664:Nat)) fun d21=>
        za4 d21 fun l22=>
        sif ((0:Int)≤i18) <|
        sif (Int.toNat i18 < x16) <|
        getK U19 x14 fun d23=>
        getK d23 ((1664:Nat)) fun d24=>
        za4 d24 fun l25=>
        getK l25 (x15+Int.toNat i18) fun d26=>
        asAgg d26 fun cs27=>
        zaB ([Lf.int IntKind.i64,Lf.arr (32)]) cs27 fun c28=>
        sif (D.width (D.agg ([D.int IntKind.i64 c28.fst]++(c28.snd.fst++[])))=(33:Nat)) <|
        sif (List.length ([D.int IntKind.i64 c28.fst]++(c28.snd.fst++[]))=(33:Nat)) <|
        brK (c28.fst == i12)
          (sif ((33:Nat)≤List.length ([D.int IntKind.i64 c28.fst]++(c28.snd.fst++[]))) <|
          sif (List.length (List.take (32:Nat) (List.drop (1:Nat) ([D.int IntKind.i64 c28.fst]++(c28.snd.fst++[]))))=(32:Nat)) <|
          sif (List.length (List.take (32:Nat) (List.drop (1:Nat) ([D.int IntKind.i64 c28.fst]++(c28.snd.fst++[]))))=(32:Nat)) <|
          sif ((32:Nat)≤List.length (l13++[])) <|
          letN (IntKind.wrap IntKind.i64 (i18+(1:Int))) fun n29=>
          zaB ([Lf.arr (32)]) (spl (0:Nat) (32:Nat) (l13++[]) (List.take (32:Nat) (List.drop (1:Nat) ([D.int IntKind.i64 c28.fst]++(c28.snd.fst++[]))))) fun c30=>
          again11 (((i12,c30,(x14,x15,x16),i17,n29,PUnit.unit),U19,PUnit.unit)))
          (letN (IntKind.wrap IntKind.i64 (i18+(1:Int))) fun n31=>
          zaB ([Lf.arr (32)]) (l13++[]) fun c32=>
          again11 (((i12,c32,(x14,x15,x16),i17,n31,PUnit.unit),U19,PUnit.unit))))
        (sif ((32:Nat)≤List.length (l13++[])) <|
        sif ((32:Nat)≤List.length (l13++[])) <|
        zat (zam [D.sl Tag.lent (cut (0:Nat) (32:Nat) (l13++[]))]) fun r33=>
        za4 r33 fun l34=>
        sif (List.length l34=List.length l34) <|
        sif (List.all l34 D.free=true) <|
        some (Ans.mk (D.tup [D.sl Tag.own l34,D.int IntKind.i64 (0:Int)]) [] [])))
      (((a1,c10,(a0,(0:Nat),List.length l6),(↑(List.length l6):Int),(0:Int),PUnit.unit),T0,PUnit.unit)))
theorem zo4 (zaU:List D→List Tb→Option Ans) (zam:List D→Option D) (a0:Nat) (a1:Int) (T0:Tb):denS Try.prog (zaA [(ID.disk_Disk_may,(.st [] [0] [(7649,false)] zaU)),(ID.slices_Clone_byte_byte,(.pure [1] zam))]) zhq [1,0] ID.disk_Disk_Read [.h 7649 a0 0,.int .i64 a1] [T0]=zfY zaU zam a0 a1 T0:=by kernel_rfl
theorem zmn (a0:Nat) (a1:Int) (T0:Tb):zbE [.h 7649 a0 0,.int .i64 a1] [T0]=zfY zaU zam a0 a1 T0:=zo4 zaU zam a0 a1 T0
def zgb:Ann:={ loops:=[],ks:=[(3840,false),(7649,false)] }
noncomputable def zaL:List D→List Tb→Option Ans:=denS Try.prog (zaA [(ID.bench_Bench_may,(.st [] [0] [(3840,false)] zaw)),(ID.disk_Disk_Read,(.st [] [1,0] [(7649,false)] zbE))]) zgb [1,0] ID.bench_Bench_Read
theorem zjr:za2 Try.prog ID.bench_Bench_Read (.st [] [1,0] [(3840,false),(7649,false)] zaL):=za9 (zaC [zed,zmm]) zbA ⟨Try.f42,by kernel_rfl,by kernel_rfl,by kernel_rfl⟩
noncomputable def zfQ:Fact Try.prog:=⟨ID.bench_Bench_Read,(.st [] [1,0] [(3840,false),(7649,false)] zaL),zjr⟩
noncomputable def ze2 (zaw:List D→List Tb→Option Ans) (zbE:List D→List Tb→Option Ans) (a0:Nat) (a1:Int) (a2:Int) (T0:Tb) (T1:Tb):Option Ans:=
  zat (zaw [D.h (3840:Nat) a0 (0:Nat),D.int IntKind.i64 a1] [T0]) fun r1=>
  nilK r1.outs <|
  nilK r1.tbs <|
  asI IntKind.i64 r1.r fun i2=>
  brK (i2 != (0:Int))
    (some (Ans.mk (D.tup [D.sl Tag.own [],D.int IntKind.i64 i2]) [] []))
    (getK T0 a0 fun d3=>
    getK d3 ((3:Nat)) fun d4=>
    za4 d4 fun l5=>
    getK T0 a0 fun d6=>
    getK d6 ((3:Nat)) fun d7=>
    za4 d7 fun l8=>
    sif ((0:Int)≤a1) <|
    sif (Int.toNat a1 < List.length l5) <|
    getK T0 a0 fun d9=>
    getK d9 ((3:Nat)) fun d10=>
    za4 d10 fun l11=>
    getK l11 ((0:Nat)+Int.toNat a1) fun d12=>
    sif (D.isAgg d12=false) <|
    sif (D.width d12=(1:Nat)) <|
    sif (D.cell d12=true) <|
    zat (zbE [d12,D.int IntKind.i64 a2] [T1]) fun r13=>
    nilK r13.outs <|
    nilK r13.tbs <|
    zeq r13.r fun ts14=>
    zaB ([Lf.any,Lf.any]) ts14 fun c15=>
    za4 c15.fst fun l16=>
    asI IntKind.i64 c15.snd.fst fun i17=>
    sif (List.length l16=List.length l16) <|
    sif (List.all l16 D.free=true) <|
    some (Ans.mk (D.tup [D.sl Tag.own l16,D.int IntKind.i64 i17]) [] []))
theorem znm (zaw:List D→List Tb→Option Ans) (zbE:List D→List Tb→Option Ans) (a0:Nat) (a1:Int) (a2:Int) (T0:Tb) (T1:Tb):denS Try.prog (zaA [(ID.bench_Bench_may,(.st [] [0] [(3840,false)] zaw)),(ID.disk_Disk_Read,(.st [] [1,0] [(7649,false)] zbE))]) zgb [1,0] ID.bench_Bench_Read [.h 3840 a0 0,.int .i64 a1,.int .i64 a2] [T0,T1]=ze2 zaw zbE a0 a1 a2 T0 T1:=by kernel_rfl
theorem zkk (a0:Nat) (a1:Int) (a2:Int) (T0:Tb) (T1:Tb):zaL [.h 3840 a0 0,.int .i64 a1,.int .i64 a2] [T0,T1]=ze2 zaw zbE a0 a1 a2 T0 T1:=znm zaw zbE a0 a1 a2 T0 T1
def zsf:Ann:={ loops:=[] }
noncomputable def zct:List D→Option D:=denP Try.prog (zaA [(ID.geom_Check,(.pure [0] zas))]) zsf [0] ID.row_in
theorem zu8:za2 Try.prog ID.row_in (.pure [0] zct):=zau (zaC [zdO]) zbA ⟨Try.f102,by kernel_rfl,by kernel_rfl,by kernel_rfl⟩
noncomputable def zqE:Fact Try.prog:=⟨ID.row_in,(.pure [0] zct),zu8⟩
noncomputable def ztq (zas:List D→Option D) (a0_0:Int) (a0_1:Int) (a0_2:Int) (a1:Int):Option D:=
  zat (zas [D.agg [D.int IntKind.i64 a0_0,D.int IntKind.i64 a0_1,D.int IntKind.i64 a0_2]]) fun r1=>
  asI IntKind.i64 r1 fun i2=>
  brK (i2 == (0:Int))
    (brK (decide (a1≥(0:Int)))
      (some (D.bool (decide (a1 < (16:Int)))))
      (some (D.bool false)))
    (some (D.bool false))
theorem zBB (zas:List D→Option D) (a0_0:Int) (a0_1:Int) (a0_2:Int) (a1:Int):denP Try.prog (zaA [(ID.geom_Check,(.pure [0] zas))]) zsf [0] ID.row_in [.agg [.int .i64 a0_0,.int .i64 a0_1,.int .i64 a0_2],.int .i64 a1]=ztq zas a0_0 a0_1 a0_2 a1:=by kernel_rfl
theorem zwi (a0_0:Int) (a0_1:Int) (a0_2:Int) (a1:Int):zct [.agg [.int .i64 a0_0,.int .i64 a0_1,.int .i64 a0_2],.int .i64 a1]=ztq zas a0_0 a0_1 a0_2 a1:=zBB zas a0_0 a0_1 a0_2 a1
def zkl:Ann:={ loops:=[] }
noncomputable def zbd:List D→Option D:=denP Try.prog (zaA [(ID.geom_Check,(.pure [0] zas))]) zkl [0] ID.geom_Budget
theorem zn9:za2 Try.prog ID.geom_Budget (.pure [0] zbd):=zau (zaC [zdO]) zbA ⟨Try.f127,by kernel_rfl,by kernel_rfl,by kernel_rfl⟩
noncomputable def zi5:Fact Try.prog:=⟨ID.geom_Budget,(.pure [0] zbd),zn9⟩
noncomputable def ziO (zas:List D→Option D) (a0_0:Int) (a0_1:Int) (a0_2:Int):Option D:=
  zat (zas [D.agg [D.int IntKind.i64 a0_0,D.int IntKind.i64 a0_1,D.int IntKind.i64 a0_2]]) fun r1=>
  asI IntKind.i64 r1 fun i2=>
  brK (i2 != (0:Int))
    (some (D.int IntKind.i64 (0:Int)))
    (letN (IntKind.wrap IntKind.i64 (a0_0 - (4:Int))) fun n3=>
    some (D.int IntKind.i64 n3))
theorem ztr (zas:List D→Option D) (a0_0:Int) (a0_1:Int) (a0_2:Int):denP Try.prog (zaA [(ID.geom_Check,(.pure [0] zas))]) zkl [0] ID.geom_Budget [.agg [.int .i64 a0_0,.int .i64 a0_1,.int .i64 a0_2]]=ziO zas a0_0 a0_1 a0_2:=by kernel_rfl
theorem zo5 (a0_0:Int) (a0_1:Int) (a0_2:Int):zbd [.agg [.int .i64 a0_0,.int .i64 a0_1,.int .i64 a0_2]]=ziO zas a0_0 a0_1 a0_2:=ztr zas a0_0 a0_1 a0_2
def zlK:Ann:={ loops:=[] }
noncomputable def zaP:List D→Option D:=denP Try.prog (zaA [(ID.geom_Check,(.pure [0] zas)),(ID.geom_Budget,(.pure [0] zbd))]) zlK [0] ID.geom_Width
theorem zo6:za2 Try.prog ID.geom_Width (.pure [0] zaP):=zau (zaC [zdO,zi5]) zbA ⟨Try.f103,by kernel_rfl,by kernel_rfl,by kernel_rfl⟩
noncomputable def zgW:Fact Try.prog:=⟨ID.geom_Width,(.pure [0] zaP),zo6⟩
noncomputable def zkm (zas:List D→Option D) (zbd:List D→Option D) (a0_0:Int) (a0_1:Int) (a0_2:Int):Option D:=
  zat (zas [D.agg [D.int IntKind.i64 a0_0,D.int IntKind.i64 a0_1,D.int IntKind.i64 a0_2]]) fun r1=>
  asI IntKind.i64 r1 fun i2=>
  brK (i2 != (0:Int))
    (some (D.int IntKind.i64 (0:Int)))
    (zat (zbd [D.agg [D.int IntKind.i64 a0_0,D.int IntKind.i64 a0_1,D.int IntKind.i64 a0_2]]) fun r3=>
    asI IntKind.i64 r3 fun i4=>
    letN (IntKind.wrap IntKind.i64 (a0_1 - i4)) fun n5=>
    some (D.int IntKind.i64 n5))
theorem zu9 (zas:List D→Option D) (zbd:List D→Option D) (a0_0:Int) (a0_1:Int) (a0_2:Int):denP Try.prog (zaA [(ID.geom_Check,(.pure [0] zas)),(ID.geom_Budget,(.pure [0] zbd))]) zlK [0] ID.geom_Width [.agg [.int .i64 a0_0,.int .i64 a0_1,.int .i64 a0_2]]=zkm zas zbd a0_0 a0_1 a0_2:=by kernel_rfl
theorem zqF (a0_0:Int) (a0_1:Int) (a0_2:Int):zaP [.agg [.int .i64 a0_0,.int .i64 a0_1,.int .i64 a0_2]]=zkm zas zbd a0_0 a0_1 a0_2:=zu9 zas zbd a0_0 a0_1 a0_2
def zoQ:Ann:={ loops:=[] }
noncomputable def zbQ:List D→Option D:=denP Try.prog (zaA [(ID.geom_Check,(.pure [0] zas))]) zoQ [0] ID.place_in
theorem zrd:za2 Try.prog ID.place_in (.pure [0] zbQ):=zau (zaC [zdO]) zbA ⟨Try.f106,by kernel_rfl,by kernel_rfl,by kernel_rfl⟩
noncomputable def znn:Fact Try.prog:=⟨ID.place_in,(.pure [0] zbQ),zrd⟩
noncomputable def zoa (zas:List D→Option D) (a0_0:Int) (a0_1:Int) (a0_2:Int) (a1:Int):Option D:=
  zat (zas [D.agg [D.int IntKind.i64 a0_0,D.int IntKind.i64 a0_1,D.int IntKind.i64 a0_2]]) fun r1=>
  asI IntKind.i64 r1 fun i2=>
  brK (i2 == (0:Int))
    (brK (decide (a1≥(0:Int)))
      (some (D.bool (decide (a1 < (16:Int)))))
      (some (D.bool false)))
    (some (D.bool false))
theorem zyg (zas:List D→Option D) (a0_0:Int) (a0_1:Int) (a0_2:Int) (a1:Int):denP Try.prog (zaA [(ID.geom_Check,(.pure [0] zas))]) zoQ [0] ID.place_in [.agg [.int .i64 a0_0,.int .i64 a0_1,.int .i64 a0_2],.int .i64 a1]=zoa zas a0_0 a0_1 a0_2 a1:=by kernel_rfl
theorem zts (a0_0:Int) (a0_1:Int) (a0_2:Int) (a1:Int):zbQ [.agg [.int .i64 a0_0,.int .i64 a0_1,.int .i64 a0_2],.int .i64 a1]=zoa zas a0_0 a0_1 a0_2 a1:=zyg zas a0_0 a0_1 a0_2 a1
def zi6:Ann:={ loops:=[] }
noncomputable def zaJ:List D→Option D:=denP Try.prog (zaA [(ID.place_in,(.pure [0] zbQ))]) zi6 [0,0] ID.place_Parity
theorem zno:za2 Try.prog ID.place_Parity (.pure [0,0] zaJ):=zau (zaC [znn]) zbA ⟨Try.f88,by kernel_rfl,by kernel_rfl,by kernel_rfl⟩
noncomputable def zfu:Fact Try.prog:=⟨ID.place_Parity,(.pure [0,0] zaJ),zno⟩
noncomputable def zhA (zbQ:List D→Option D) (a0_0:Int) (a0_1:Int) (a0_2:Int) (a1:Int):Option D:=
  zat (zbQ [D.agg [D.int IntKind.i64 a0_0,D.int IntKind.i64 a0_1,D.int IntKind.i64 a0_2],D.int IntKind.i64 a1]) fun r1=>
  asB r1 fun b2=>
  brK (!b2)
    (some (D.tup [D.int IntKind.i64 (-1:Int),D.int IntKind.i64 (-1:Int)]))
    (letN (IntKind.wrap IntKind.i64 (a0_1 - (1:Int))) fun n3=>
    sif (a0_2≠(0:Int)) <|
    letN (IntKind.wrap IntKind.i64 (Int.tdiv a1 a0_2)) fun n4=>
    sif (a0_1≠(0:Int)) <|
    letN (Int.tmod n4 a0_1) fun n5=>
    letN (IntKind.wrap IntKind.i64 (n3 - n5)) fun n6=>
    brK (a0_0 == (5:Int))
      (some (D.tup [D.int IntKind.i64 n6,D.int IntKind.i64 (-1:Int)]))
      (letN (IntKind.wrap IntKind.i64 (n6+(1:Int))) fun n7=>
      sif (a0_1≠(0:Int)) <|
      letN (Int.tmod n7 a0_1) fun n8=>
      some (D.tup [D.int IntKind.i64 n6,D.int IntKind.i64 n8])))
theorem zre (zbQ:List D→Option D) (a0_0:Int) (a0_1:Int) (a0_2:Int) (a1:Int):denP Try.prog (zaA [(ID.place_in,(.pure [0] zbQ))]) zi6 [0,0] ID.place_Parity [.agg [.int .i64 a0_0,.int .i64 a0_1,.int .i64 a0_2],.int .i64 a1]=zhA zbQ a0_0 a0_1 a0_2 a1:=by kernel_rfl
theorem zob (a0_0:Int) (a0_1:Int) (a0_2:Int) (a1:Int):zaJ [.agg [.int .i64 a0_0,.int .i64 a0_1,.int .i64 a0_2],.int .i64 a1]=zhA zbQ a0_0 a0_1 a0_2 a1:=zre zbQ a0_0 a0_1 a0_2 a1
def zlL:Ann:={ loops:=[] }
noncomputable def zbi:List D→Option D:=denP Try.prog (zaA [(ID.place_in,(.pure [0] zbQ)),(ID.geom_Width,(.pure [0] zaP)),(ID.place_Parity,(.pure [0,0] zaJ)),(ID.geom_Budget,(.pure [0] zbd))]) zlL [0] ID.place_Disk
theorem zo7:za2 Try.prog ID.place_Disk (.pure [0] zbi):=zau (zaC [znn,zgW,zfu,zi5]) zbA ⟨Try.f104,by kernel_rfl,by kernel_rfl,by kernel_rfl⟩
noncomputable def zkn:Fact Try.prog:=⟨ID.place_Disk,(.pure [0] zbi),zo7⟩
noncomputable def zko (zbQ:List D→Option D) (zaP:List D→Option D) (zaJ:List D→Option D) (zbd:List D→Option D) (a0_0:Int) (a0_1:Int) (a0_2:Int) (a1:Int) (a2:Int):Option D:=
  zat (zbQ [D.agg [D.int IntKind.i64 a0_0,D.int IntKind.i64 a0_1,D.int IntKind.i64 a0_2],D.int IntKind.i64 a1]) fun r1=>
  asB r1 fun b2=>
  brK (!b2)
    (some (D.int IntKind.i64 (-1:Int)))
    (brK (decide (a2 < (0:Int)))
      (some (D.int IntKind.i64 (-1:Int)))
      (zat (zaP [D.agg [D.int IntKind.i64 a0_0,D.int IntKind.i64 a0_1,D.int IntKind.i64 a0_2]]) fun r3=>
      asI IntKind.i64 r3 fun i4=>
      brK (decide (a2≥i4))
        (some (D.int IntKind.i64 (-1:Int)))
        (zat (zaJ [D.agg [D.int IntKind.i64 a0_0,D.int IntKind.i64 a0_1,D.int IntKind.i64 a0_2],D.int IntKind.i64 a1]) fun r5=>
        zeq r5 fun ts6=>
        zaB ([Lf.any,Lf.any]) ts6 fun c7=>
        asI IntKind.i64 c7.fst fun i8=>
        asI IntKind.i64 c7.snd.fst fun i9=>
        zat (zbd [D.agg [D.int IntKind.i64 a0_0,D.int IntKind.i64 a0_1,D.int IntKind.i64 a0_2]]) fun r10=>
        asI IntKind.i64 r10 fun i11=>
        letN (IntKind.wrap IntKind.i64 (i8+i11)) fun n12=>
        letN (IntKind.wrap IntKind.i64 (n12+a2)) fun n13=>
        sif (a0_1≠(0:Int)) <|
        letN (Int.tmod n13 a0_1) fun n14=>
        some (D.int IntKind.i64 n14))))
theorem zva (zbQ:List D→Option D) (zaP:List D→Option D) (zaJ:List D→Option D) (zbd:List D→Option D) (a0_0:Int) (a0_1:Int) (a0_2:Int) (a1:Int) (a2:Int):denP Try.prog (zaA [(ID.place_in,(.pure [0] zbQ)),(ID.geom_Width,(.pure [0] zaP)),(ID.place_Parity,(.pure [0,0] zaJ)),(ID.geom_Budget,(.pure [0] zbd))]) zlL [0] ID.place_Disk [.agg [.int .i64 a0_0,.int .i64 a0_1,.int .i64 a0_2],.int .i64 a1,.int .i64 a2]=zko zbQ zaP zaJ zbd a0_0 a0_1 a0_2 a1 a2:=by kernel_rfl
theorem zqG (a0_0:Int) (a0_1:Int) (a0_2:Int) (a1:Int) (a2:Int):zbi [.agg [.int .i64 a0_0,.int .i64 a0_1,.int .i64 a0_2],.int .i64 a1,.int .i64 a2]=zko zbQ zaP zaJ zbd a0_0 a0_1 a0_2 a1 a2:=zva zbQ zaP zaJ zbd a0_0 a0_1 a0_2 a1 a2
def zib:Ann:={ loops:=[(0,[.dead,.dead,.dead,.own 1,.dead,.dead,.val (.cell .lent),.val (.cell (.int .i64)),.val (.cell (.int .i64))])] }
noncomputable def zbC:List D→Option D:=denP Try.prog (zaA []) zib [1] ID.erase_Missing
theorem zmo:za2 Try.prog ID.erase_Missing (.pure [1] zbC):=zau (zaC []) zbA ⟨Try.f128,by kernel_rfl,by kernel_rfl,by kernel_rfl⟩
noncomputable def znp:Fact Try.prog:=⟨ID.erase_Missing,(.pure [1] zbC),zmo⟩
noncomputable def zgX (a0:List D):Option D:=
  zce (α:=(List D×List D×Int×Int×PUnit)×PUnit) (fun again1 ((l2,(l3,(i4,(i5,_)))),_)=>
    brK (decide (i5 < i4))
      (sif ((0:Int)≤i5) <|
      getK l3 (Int.toNat i5) fun d6=>
      asSl d6 fun t7 l8=>
      brK ((↑(List.length l8):Int) == (0:Int))
        (sif (List.length l2+(1:Nat)≤(4294967296:Nat)) <|
        sif (List.length l2=List.length l2) <|
        letN (IntKind.wrap IntKind.i64 (i5+(1:Int))) fun n9=>
        sif (List.length l2+(1:Nat)=List.length (l2++[D.int IntKind.i64 i5])) <|
        again1 (((l2++[D.int IntKind.i64 i5],l3,i4,n9,PUnit.unit),PUnit.unit)))
        (letN (IntKind.wrap IntKind.i64 (i5+(1:Int))) fun n10=>
        sif (List.length l2=List.length l2) <|
        again1 (((l2,l3,i4,n10,PUnit.unit),PUnit.unit))))
      (sif (List.length l2=List.length l2) <|
      sif (List.all l2 D.free=true) <|
      some (D.sl Tag.own l2)))
    ((([],a0,(↑(List.length a0):Int),(0:Int),PUnit.unit),PUnit.unit))
theorem zqH (tga0:Tag) (a0:List D):denP Try.prog (zaA []) zib [1] ID.erase_Missing [.sl tga0 a0]=zgX (D.lentL a0):=by kernel_rfl
theorem znq (tga0:Tag) (a0:List D):zbC [.sl tga0 a0]=zgX (D.lentL a0):=zqH tga0 a0
def zi7:Ann:={ loops:=[],hints:=[(1,.at1 (.int .i64))] }
noncomputable def zaE:List D→Option D:=denP Try.prog (zaA []) zi7 [0] ID.erase_fits_1
theorem znr:za2 Try.prog ID.erase_fits_1 (.pure [0] zaE):=zau (zaC []) zbA ⟨Try.f140,by kernel_rfl,by kernel_rfl,by kernel_rfl⟩
noncomputable def zic:Fact Try.prog:=⟨ID.erase_fits_1,(.pure [0] zaE),znr⟩
noncomputable def zhB (a0:List D) (c0:Int):Option D:=
  brK (decide ((↑(List.length a0):Int) > (0:Int)))
    (some (D.bool ((↑(List.length a0):Int) != c0)))
    (some (D.bool false))
theorem zrf (tga0:Tag) (a0:List D) (c0:Int):denP Try.prog (zaA []) zi7 [0] ID.erase_fits_1 [.sl tga0 a0,.at_ (.int .i64 c0)]=zhB (D.lentL a0) c0:=by kernel_rfl
theorem zoc (tga0:Tag) (a0:List D) (c0:Int):zaE [.sl tga0 a0,.at_ (.int .i64 c0)]=zhB (D.lentL a0) c0:=zrf tga0 a0 c0
def zid:Ann:={ loops:=[] }
noncomputable def zap:List D→Option D:=denP Try.prog (zaA []) zid [0] ID.row_sectors_1
theorem zmp:za2 Try.prog ID.row_sectors_1 (.pure [0] zap):=zau (zaC []) zbA ⟨Try.f135,by kernel_rfl,by kernel_rfl,by kernel_rfl⟩
noncomputable def ze3:Fact Try.prog:=⟨ID.row_sectors_1,(.pure [0] zap),zmp⟩
noncomputable def zgY (a0:List D):Option D:=
  some (D.bool ((↑(List.length a0):Int) != (32:Int)))
theorem zqI (tga0:Tag) (a0:List D):denP Try.prog (zaA []) zid [0] ID.row_sectors_1 [.sl tga0 a0]=zgY (D.lentL a0):=by kernel_rfl
theorem zns (tga0:Tag) (a0:List D):zap [.sl tga0 a0]=zgY (D.lentL a0):=zqI tga0 a0
def zcp:List (Nat×Ann):=[(140,{ loops:=[(0,[.val (.cell .lent),.val (.fn1 (140:FuncId) (.int .i64)),.dead,.dead,.dead,.dead,.dead,.val (.cell (.int .i64)),.val (.cell (.int .i64))])] }),(135,{ loops:=[(0,[.val (.cell .lent),.fnc 135,.dead,.dead,.dead,.dead,.dead,.val (.cell (.int .i64)),.val (.cell (.int .i64))])] })]
noncomputable def zag:List D→Option D:=denA Try.prog (zaA [(ID.erase_fits_1,(.pure [0] zaE)),(ID.row_sectors_1,(.pure [0] zap))]) zcp [0] ID.slices_IndexFunc_byte_byte
theorem ze9:za2 Try.prog ID.slices_IndexFunc_byte_byte (.pure [0] zag):=zr5 (zaC [zic,ze3]) zbA ⟨Try.f143,by kernel_rfl,by kernel_rfl,by kernel_rfl⟩
noncomputable def zfv:Fact Try.prog:=⟨ID.slices_IndexFunc_byte_byte,(.pure [0] zag),ze9⟩
noncomputable def zb8 (zaE:List D→Option D) (zap:List D→Option D) (a0:List D) (c0:Int):Option D:=
  zce (α:=(List D×Int×Int×Int×PUnit)×PUnit) (fun again1 ((l2,(i3,(i4,(i5,_)))),_)=>
    brK (decide (i5 < i4))
      (sif ((0:Int)≤i5) <|
      getK l2 (Int.toNat i5) fun d6=>
      asSl d6 fun t7 l8=>
      zat (zaE [D.sl t7 l8,D.at_ (D.int IntKind.i64 i3)]) fun r9=>
      asB r9 fun b10=>
      brK b10
        (some (D.int IntKind.i64 i5))
        (letN (IntKind.wrap IntKind.i64 (i5+(1:Int))) fun n11=>
        again1 (((l2,i3,i4,n11,PUnit.unit),PUnit.unit))))
      (some (D.int IntKind.i64 (-1:Int))))
    (((a0,c0,(↑(List.length a0):Int),(0:Int),PUnit.unit),PUnit.unit))
theorem zeL (zaE:List D→Option D) (zap:List D→Option D) (tga0:Tag) (a0:List D) (c0:Int):denA Try.prog (zaA [(ID.erase_fits_1,(.pure [0] zaE)),(ID.row_sectors_1,(.pure [0] zap))]) zcp [0] ID.slices_IndexFunc_byte_byte [.sl tga0 a0,.fn 140 [] [.at_ (.int .i64 c0)]]=zb8 zaE zap (D.lentL a0) c0:=by kernel_rfl
theorem zee (tga0:Tag) (a0:List D) (c0:Int):zag [.sl tga0 a0,.fn 140 [] [.at_ (.int .i64 c0)]]=zb8 zaE zap (D.lentL a0) c0:=zeL zaE zap tga0 a0 c0
noncomputable def zbY (zaE:List D→Option D) (zap:List D→Option D) (a0:List D):Option D:=
  zce (α:=(List D×Int×Int×PUnit)×PUnit) (fun again1 ((l2,(i3,(i4,_))),_)=>
    brK (decide (i4 < i3))
      (sif ((0:Int)≤i4) <|
      getK l2 (Int.toNat i4) fun d5=>
      asSl d5 fun t6 l7=>
      zat (zap [D.sl t6 l7]) fun r8=>
      asB r8 fun b9=>
      brK b9
        (some (D.int IntKind.i64 i4))
        (letN (IntKind.wrap IntKind.i64 (i4+(1:Int))) fun n10=>
        again1 (((l2,i3,n10,PUnit.unit),PUnit.unit))))
      (some (D.int IntKind.i64 (-1:Int))))
    (((a0,(↑(List.length a0):Int),(0:Int),PUnit.unit),PUnit.unit))
theorem zef (zaE:List D→Option D) (zap:List D→Option D) (tga0:Tag) (a0:List D):denA Try.prog (zaA [(ID.erase_fits_1,(.pure [0] zaE)),(ID.row_sectors_1,(.pure [0] zap))]) zcp [0] ID.slices_IndexFunc_byte_byte [.sl tga0 a0,.fn 135 [] []]=zbY zaE zap (D.lentL a0):=by kernel_rfl
theorem zdB (tga0:Tag) (a0:List D):zag [.sl tga0 a0,.fn 135 [] []]=zbY zaE zap (D.lentL a0):=zef zaE zap tga0 a0
def zcd:Ann:={ loops:=[] }
noncomputable def zae:List D→Option D:=denP Try.prog (zaA [(ID.slices_IndexFunc_byte_byte,(.pure [0] zag)),(ID.erase_fits_1,(.pure [0] zaE)),(ID.row_sectors_1,(.pure [0] zap))]) zcd [0] ID.slices_ContainsFunc_byte_byte
theorem zey:za2 Try.prog ID.slices_ContainsFunc_byte_byte (.pure [0] zae):=zau (zaC [zfv,zic,ze3]) zbA ⟨Try.f134,by kernel_rfl,by kernel_rfl,by kernel_rfl⟩
noncomputable def zcN:Fact Try.prog:=⟨ID.slices_ContainsFunc_byte_byte,(.pure [0] zae),zey⟩
noncomputable def zbZ (zag:List D→Option D) (zaE:List D→Option D) (zap:List D→Option D) (a0:List D) (c0:Int):Option D:=
  zat (zag [D.sl Tag.lent a0,D.fn (140:FuncId) [] [D.at_ (D.int IntKind.i64 c0)]]) fun r1=>
  asI IntKind.i64 r1 fun i2=>
  some (D.bool (decide (i2≥(0:Int))))
theorem zeg (zag:List D→Option D) (zaE:List D→Option D) (zap:List D→Option D) (tga0:Tag) (a0:List D) (c0:Int):denP Try.prog (zaA [(ID.slices_IndexFunc_byte_byte,(.pure [0] zag)),(ID.erase_fits_1,(.pure [0] zaE)),(ID.row_sectors_1,(.pure [0] zap))]) zcd [0] ID.slices_ContainsFunc_byte_byte [.sl tga0 a0,.fn 140 [] [.at_ (.int .i64 c0)]]=zbZ zag zaE zap (D.lentL a0) c0:=by kernel_rfl
theorem zdC (tga0:Tag) (a0:List D) (c0:Int):zae [.sl tga0 a0,.fn 140 [] [.at_ (.int .i64 c0)]]=zbZ zag zaE zap (D.lentL a0) c0:=zeg zag zaE zap tga0 a0 c0
noncomputable def zbP (zag:List D→Option D) (zaE:List D→Option D) (zap:List D→Option D) (a0:List D):Option D:=
  zat (zag [D.sl Tag.lent a0,D.fn (135:FuncId) [] []]) fun r1=>
  asI IntKind.i64 r1 fun i2=>
  some (D.bool (decide (i2≥(0:Int))))
theorem zdD (zag:List D→Option D) (zaE:List D→Option D) (zap:List D→Option D) (tga0:Tag) (a0:List D):denP Try.prog (zaA [(ID.slices_IndexFunc_byte_byte,(.pure [0] zag)),(ID.erase_fits_1,(.pure [0] zaE)),(ID.row_sectors_1,(.pure [0] zap))]) zcd [0] ID.slices_ContainsFunc_byte_byte [.sl tga0 a0,.fn 135 [] []]=zbP zag zaE zap (D.lentL a0):=by kernel_rfl
theorem zdk (tga0:Tag) (a0:List D):zae [.sl tga0 a0,.fn 135 [] []]=zbP zag zaE zap (D.lentL a0):=zdD zag zaE zap tga0 a0
def zlM:Ann:={ loops:=[] }
noncomputable def zb1:List D→Option D:=denP Try.prog (zaA [(ID.slices_ContainsFunc_byte_byte,(.pure [0] zae))]) zlM [0] ID.erase_fits
theorem zo8:za2 Try.prog ID.erase_fits (.pure [0] zb1):=zau (zaC [zcN]) zbA ⟨Try.f129,by kernel_rfl,by kernel_rfl,by kernel_rfl⟩
noncomputable def zqJ:Fact Try.prog:=⟨ID.erase_fits,(.pure [0] zb1),zo8⟩
noncomputable def zkp (zae:List D→Option D) (a0:Int) (a1:List D):Option D:=
  zat (zae [D.sl Tag.lent a1,D.fn (140:Nat) [] [D.at_ (D.int IntKind.i64 a0)]]) fun r1=>
  asB r1 fun b2=>
  some (D.bool !b2)
theorem zvb (zae:List D→Option D) (tga1:Tag) (a0:Int) (a1:List D):denP Try.prog (zaA [(ID.slices_ContainsFunc_byte_byte,(.pure [0] zae))]) zlM [0] ID.erase_fits [.int .i64 a0,.sl tga1 a1]=zkp zae a0 (D.lentL a1):=by kernel_rfl
theorem zqK (tga1:Tag) (a0:Int) (a1:List D):zb1 [.int .i64 a0,.sl tga1 a1]=zkp zae a0 (D.lentL a1):=zvb zae tga1 a0 a1
def zi8:Ann:={ loops:=[(0,[.val (.cell (.int .i64)),.dead,.dead,.dead,.dead,.own 1,.dead,.dead,.dead,.val (.cell .lent),.val (.cell (.int .i64)),.val (.cell (.int .i64))])] }
noncomputable def zbK:List D→Option D:=denP Try.prog (zaA []) zi8 [1] ID.erase_filled
theorem znt:za2 Try.prog ID.erase_filled (.pure [1] zbK):=zau (zaC []) zbA ⟨Try.f130,by kernel_rfl,by kernel_rfl,by kernel_rfl⟩
noncomputable def zod:Fact Try.prog:=⟨ID.erase_filled,(.pure [1] zbK),znt⟩
noncomputable def zhC (a0:Int) (a1:List D):Option D:=
  zce (α:=(Int×List D×List D×Int×Int×PUnit)×PUnit) (fun again1 ((i2,(l3,(l4,(i5,(i6,_))))),_)=>
    brK (decide (i6 < i5))
      (sif ((0:Int)≤i6) <|
      getK l4 (Int.toNat i6) fun d7=>
      asSl d7 fun t8 l9=>
      sif ((0:Int)≤i2) <|
      sif (i2=i2) <|
      sif (i2*(1:Int)≤(140737488355328:Int)) <|
      sif (i2≤(140737488355328:Int)) <|
      sif ((0:Nat)+Int.toNat i2≤List.length (List.replicate (Int.toNat i2) (D.int IntKind.u8 (0:Int)))) <|
      sif (cells l9=true) <|
      sif ((0:Nat)+Int.toNat i2≤List.length ([]++List.take (Int.toNat i2) l9++List.drop ((0:Nat)+List.length (List.take (Int.toNat i2) l9)) (List.replicate (Int.toNat i2) (D.int IntKind.u8 (0:Int))))) <|
      sif (List.length l3+(1:Nat)≤(4294967296:Nat)) <|
      sif (List.length l3=List.length l3) <|
      letN (IntKind.wrap IntKind.i64 (i6+(1:Int))) fun n10=>
      sif (List.length l3+(1:Nat)=List.length (l3++[D.sl Tag.fresh (cut (0:Nat) (Int.toNat i2) ([]++List.take (Int.toNat i2) l9++List.drop ((0:Nat)+List.length (List.take (Int.toNat i2) l9)) (List.replicate (Int.toNat i2) (D.int IntKind.u8 (0:Int)))))])) <|
      again1 (((i2,l3++[D.sl Tag.fresh (cut (0:Nat) (Int.toNat i2) ([]++List.take (Int.toNat i2) l9++List.drop ((0:Nat)+List.length (List.take (Int.toNat i2) l9)) (List.replicate (Int.toNat i2) (D.int IntKind.u8 (0:Int)))))],l4,i5,n10,PUnit.unit),PUnit.unit)))
      (sif (List.length l3=List.length l3) <|
      sif (List.all l3 D.free=true) <|
      some (D.sl Tag.own l3)))
    (((a0,[],a1,(↑(List.length a1):Int),(0:Int),PUnit.unit),PUnit.unit))
theorem zrg (tga1:Tag) (a0:Int) (a1:List D):denP Try.prog (zaA []) zi8 [1] ID.erase_filled [.int .i64 a0,.sl tga1 a1]=zhC a0 (D.lentL a1):=by kernel_rfl
theorem zoe (tga1:Tag) (a0:Int) (a1:List D):zbK [.int .i64 a0,.sl tga1 a1]=zhC a0 (D.lentL a1):=zrg tga1 a0 a1
def znu:Ann:={ loops:=[] }
noncomputable def zaY:List D→Option D:=denP Try.prog (zaA []) znu [0] ID.gf_double
theorem zqL:za2 Try.prog ID.gf_double (.pure [0] zaY):=zau (zaC []) zbA ⟨Try.f144,by kernel_rfl,by kernel_rfl,by kernel_rfl⟩
noncomputable def zhD:Fact Try.prog:=⟨ID.gf_double,(.pure [0] zaY),zqL⟩
noncomputable def zmq (a0:Int):Option D:=
  brK (decide (a0≥(128:Int)))
    (letN (IntKind.wrap IntKind.u8 (a0*(2:Int))) fun n1=>
    letN (bits BinOp.xor IntKind.u8 n1 (29:Int)) fun n2=>
    some (D.int IntKind.u8 n2))
    (letN (IntKind.wrap IntKind.u8 (a0*(2:Int))) fun n3=>
    some (D.int IntKind.u8 n3))
theorem zwj (a0:Int):denP Try.prog (zaA []) znu [0] ID.gf_double [.int .u8 a0]=zmq a0:=by kernel_rfl
theorem zrh (a0:Int):zaY [.int .u8 a0]=zmq a0:=zwj a0
def zsg:Ann:={ loops:=[(0,[.val (.cell (.int .u8)),.val (.cell (.int .u8)),.dead,.dead,.dead,.val (.cell (.int .u8))])] }
noncomputable def zem:List D→Option D:=denP Try.prog (zaA [(ID.gf_double,(.pure [0] zaY))]) zsg [0] ID.gf_Mul
theorem zvc:za2 Try.prog ID.gf_Mul (.pure [0] zem):=zau (zaC [zhD]) zbA ⟨Try.f146,by kernel_rfl,by kernel_rfl,by kernel_rfl⟩
noncomputable def zwk:Fact Try.prog:=⟨ID.gf_Mul,(.pure [0] zem),zvc⟩
noncomputable def ztt (zaY:List D→Option D) (a0:Int) (a1:Int):Option D:=
  zce (α:=(Int×Int×Int×PUnit)×PUnit) (fun again1 ((i2,(i3,(i4,_))),_)=>
    brK (decide (i3 > (0:Int)))
      (letN (bits BinOp.and IntKind.u8 i3 (1:Int)) fun n5=>
      brK (n5 == (1:Int))
        (letN (bits BinOp.xor IntKind.u8 i4 i2) fun n6=>
        zat (zaY [D.int IntKind.u8 i2]) fun r7=>
        asI IntKind.u8 r7 fun i8=>
        letN (Int.fdiv i3 (2:Int)) fun n9=>
        again1 (((i8,n9,n6,PUnit.unit),PUnit.unit)))
        (zat (zaY [D.int IntKind.u8 i2]) fun r10=>
        asI IntKind.u8 r10 fun i11=>
        letN (Int.fdiv i3 (2:Int)) fun n12=>
        again1 (((i11,n12,i4,PUnit.unit),PUnit.unit))))
      (some (D.int IntKind.u8 i4)))
    (((a0,a1,(0:Int),PUnit.unit),PUnit.unit))
theorem zBC (zaY:List D→Option D) (a0:Int) (a1:Int):denP Try.prog (zaA [(ID.gf_double,(.pure [0] zaY))]) zsg [0] ID.gf_Mul [.int .u8 a0,.int .u8 a1]=ztt zaY a0 a1:=by kernel_rfl
theorem zwl (a0:Int) (a1:Int):zem [.int .u8 a0,.int .u8 a1]=ztt zaY a0 a1:=zBC zaY a0 a1
def zlN:Ann:={ loops:=[(0,[.dead,.val (.cell (.int .u8)),.dead,.dead,.dead,.own 1,.dead,.dead,.val (.cell .lent),.val (.cell (.int .i64)),.val (.cell (.int .i64))])] }
noncomputable def zaH:List D→Option D:=denP Try.prog (zaA [(ID.gf_Mul,(.pure [0] zem))]) zlN [1] ID.synd_Scale
theorem zo9:za2 Try.prog ID.synd_Scale (.pure [1] zaH):=zau (zaC [zwk]) zbA ⟨Try.f142,by kernel_rfl,by kernel_rfl,by kernel_rfl⟩
noncomputable def zgZ:Fact Try.prog:=⟨ID.synd_Scale,(.pure [1] zaH),zo9⟩
noncomputable def zkq (zem:List D→Option D) (a0:List D) (a1:Int):Option D:=
  zce (α:=(Int×List D×List D×Int×Int×PUnit)×PUnit) (fun again1 ((i2,(l3,(l4,(i5,(i6,_))))),_)=>
    brK (decide (i6 < i5))
      (sif ((0:Int)≤i6) <|
      getK l4 (Int.toNat i6) fun d7=>
      asI IntKind.u8 d7 fun i8=>
      zat (zem [D.int IntKind.u8 i8,D.int IntKind.u8 i2]) fun r9=>
      asI IntKind.u8 r9 fun i10=>
      sif (List.length l3+(1:Nat)≤(4294967296:Nat)) <|
      sif (List.length l3=List.length l3) <|
      letN (IntKind.wrap IntKind.i64 (i6+(1:Int))) fun n11=>
      sif (List.length l3+(1:Nat)=List.length (l3++[D.int IntKind.u8 i10])) <|
      again1 (((i2,l3++[D.int IntKind.u8 i10],l4,i5,n11,PUnit.unit),PUnit.unit)))
      (sif (List.length l3=List.length l3) <|
      sif (List.all l3 D.free=true) <|
      some (D.sl Tag.own l3)))
    (((a1,[],a0,(↑(List.length a0):Int),(0:Int),PUnit.unit),PUnit.unit))
theorem zvd (zem:List D→Option D) (tga0:Tag) (a0:List D) (a1:Int):denP Try.prog (zaA [(ID.gf_Mul,(.pure [0] zem))]) zlN [1] ID.synd_Scale [.sl tga0 a0,.int .u8 a1]=zkq zem (D.lentL a0) a1:=by kernel_rfl
theorem zqM (tga0:Tag) (a0:List D) (a1:Int):zaH [.sl tga0 a0,.int .u8 a1]=zkq zem (D.lentL a0) a1:=zvd zem tga0 a0 a1
def zoR:Ann:={ loops:=[(1,[.dead,.val (.cell .lent),.dead,.dead,.dead,.own 1,.dead,.dead,.dead,.dead,.dead,.dead,.dead,.val (.cell .lent),.val (.cell (.int .i64)),.val (.cell (.int .i64))])] }
noncomputable def zaK:List D→Option D:=denP Try.prog (zaA []) zoR [1] ID.synd_Add
theorem zri:za2 Try.prog ID.synd_Add (.pure [1] zaK):=zau (zaC []) zbA ⟨Try.f132,by kernel_rfl,by kernel_rfl,by kernel_rfl⟩
noncomputable def zgp:Fact Try.prog:=⟨ID.synd_Add,(.pure [1] zaK),zri⟩
noncomputable def zof (a0:List D) (a1:List D):Option D:=
  brK ((↑(List.length a0):Int) != (↑(List.length a1):Int))
    (some (D.sl Tag.own []))
    (zce (α:=(List D×List D×List D×Int×Int×PUnit)×PUnit) (fun again1 ((l2,(l3,(l4,(i5,(i6,_))))),_)=>
      brK (decide (i6 < i5))
        (sif ((0:Int)≤i6) <|
        getK l4 (Int.toNat i6) fun d7=>
        asI IntKind.u8 d7 fun i8=>
        sif ((0:Int)≤i6) <|
        getK l2 (Int.toNat i6) fun d9=>
        asI IntKind.u8 d9 fun i10=>
        letN (bits BinOp.xor IntKind.u8 i8 i10) fun n11=>
        sif (List.length l3+(1:Nat)≤(4294967296:Nat)) <|
        sif (List.length l3=List.length l3) <|
        letN (IntKind.wrap IntKind.i64 (i6+(1:Int))) fun n12=>
        sif (List.length l3+(1:Nat)=List.length (l3++[D.int IntKind.u8 n11])) <|
        again1 (((l2,l3++[D.int IntKind.u8 n11],l4,i5,n12,PUnit.unit),PUnit.unit)))
        (sif (List.length l3=List.length l3) <|
        sif (List.all l3 D.free=true) <|
        some (D.sl Tag.own l3)))
      (((a1,[],a0,(↑(List.length a0):Int),(0:Int),PUnit.unit),PUnit.unit)))
theorem zyh (tga0:Tag) (tga1:Tag) (a0:List D) (a1:List D):denP Try.prog (zaA []) zoR [1] ID.synd_Add [.sl tga0 a0,.sl tga1 a1]=zof (D.lentL a0) (D.lentL a1):=by kernel_rfl
theorem ztu (tga0:Tag) (tga1:Tag) (a0:List D) (a1:List D):zaK [.sl tga0 a0,.sl tga1 a1]=zof (D.lentL a0) (D.lentL a1):=zyh tga0 tga1 a0 a1
def zsh:Ann:={ loops:=[(0,[.dead,.dead,.dead,.val (.cell (.int .u8)),.dead,.dead,.dead,.val (.cell (.int .i64)),.val (.cell (.int .i64))])] }
noncomputable def zaS:List D→Option D:=denP Try.prog (zaA [(ID.gf_double,(.pure [0] zaY))]) zsh [0] ID.gf_Pow
theorem zve:za2 Try.prog ID.gf_Pow (.pure [0] zaS):=zau (zaC [zhD]) zbA ⟨Try.f138,by kernel_rfl,by kernel_rfl,by kernel_rfl⟩
noncomputable def zg0:Fact Try.prog:=⟨ID.gf_Pow,(.pure [0] zaS),zve⟩
noncomputable def zps (zaY:List D→Option D) (a0:Int):Option D:=
  letN (Int.tmod a0 (255:Int)) fun n1=>
  letN (IntKind.wrap IntKind.i64 (n1+(255:Int))) fun n2=>
  letN (Int.tmod n2 (255:Int)) fun n3=>
  zce (α:=(Int×Int×Int×PUnit)×PUnit) (fun again4 ((i5,(i6,(i7,_))),_)=>
    brK (decide (i7 < i6))
      (zat (zaY [D.int IntKind.u8 i5]) fun r8=>
      asI IntKind.u8 r8 fun i9=>
      letN (IntKind.wrap IntKind.i64 (i7+(1:Int))) fun n10=>
      again4 (((i9,i6,n10,PUnit.unit),PUnit.unit)))
      (some (D.int IntKind.u8 i5)))
    ((((1:Int),n3,(0:Int),PUnit.unit),PUnit.unit))
theorem zBD (zaY:List D→Option D) (a0:Int):denP Try.prog (zaA [(ID.gf_double,(.pure [0] zaY))]) zsh [0] ID.gf_Pow [.int .i64 a0]=zps zaY a0:=by kernel_rfl
theorem zqN (a0:Int):zaS [.int .i64 a0]=zps zaY a0:=zBD zaY a0
def zoS:Ann:={ loops:=[] }
noncomputable def zbx:List D→Option D:=denP Try.prog (zaA []) zoS [0] ID.synd_P_1
theorem zrj:za2 Try.prog ID.synd_P_1 (.pure [0] zbx):=zau (zaC []) zbA ⟨Try.f137,by kernel_rfl,by kernel_rfl,by kernel_rfl⟩
noncomputable def znv:Fact Try.prog:=⟨ID.synd_P_1,(.pure [0] zbx),zrj⟩
noncomputable def zsi (a0:Int):Option D:=
  some (D.int IntKind.u8 (1:Int))
theorem zyi (a0:Int):denP Try.prog (zaA []) zoS [0] ID.synd_P_1 [.int .i64 a0]=zsi a0:=by kernel_rfl
theorem ztv (a0:Int):zbx [.int .i64 a0]=zsi a0:=zyi a0
def zkr:List (Nat×Ann):=[(137,{ loops:=[(1,[.dead,.fnc 137,.dead,.dead,.dead,.own 1,.dead,.dead,.dead,.dead,.dead,.dead,.dead,.dead,.dead,.dead,.val (.cell .lent),.val (.cell (.int .i64)),.val (.cell (.int .i64))])] }),(138,{ loops:=[(1,[.dead,.fnc 138,.dead,.dead,.dead,.own 1,.dead,.dead,.dead,.dead,.dead,.dead,.dead,.dead,.dead,.dead,.val (.cell .lent),.val (.cell (.int .i64)),.val (.cell (.int .i64))])] })]
noncomputable def zbF:List D→Option D:=denA Try.prog (zaA [(ID.synd_Scale,(.pure [1] zaH)),(ID.synd_Add,(.pure [1] zaK)),(ID.gf_Pow,(.pure [0] zaS)),(ID.synd_P_1,(.pure [0] zbx))]) zkr [1] ID.synd_sum
theorem zrk:za2 Try.prog ID.synd_sum (.pure [1] zbF):=zr5 (zaC [zgZ,zgp,zg0,znv]) zbA ⟨Try.f136,by kernel_rfl,by kernel_rfl,by kernel_rfl⟩
noncomputable def znw:Fact Try.prog:=⟨ID.synd_sum,(.pure [1] zbF),zrk⟩
noncomputable def ziP (zaH:List D→Option D) (zaK:List D→Option D) (zaS:List D→Option D) (zbx:List D→Option D) (a0:List D):Option D:=
  brK ((↑(List.length a0):Int) == (0:Int))
    (some (D.sl Tag.own []))
    (getK a0 ((0:Nat)) fun d1=>
    asSl d1 fun t2 l3=>
    sif ((↑(List.length l3):Int)=(↑(List.length l3):Int)) <|
    sif ((↑(List.length l3):Int)*(1:Int)≤(140737488355328:Int)) <|
    sif ((↑(List.length l3):Int)≤(140737488355328:Int)) <|
    sif (Int.toNat (↑(List.length l3):Int)=List.length (List.replicate (Int.toNat (↑(List.length l3):Int)) (D.int IntKind.u8 (0:Int)))) <|
    zce (α:=(List D×List D×Int×Int×PUnit)×PUnit) (fun again4 ((l5,(l6,(i7,(i8,_)))),_)=>
      brK (decide (i8 < i7))
        (sif ((0:Int)≤i8) <|
        getK l6 (Int.toNat i8) fun d9=>
        asSl d9 fun t10 l11=>
        sif ((0:Nat)+List.length l5≤List.length l5) <|
        brK ((↑(List.length l11):Int) != (↑(List.length l5):Int))
          (some (D.sl Tag.own []))
          (zat (zbx [D.int IntKind.i64 i8]) fun r12=>
          asI IntKind.u8 r12 fun i13=>
          zat (zaH [D.sl t10 l11,D.int IntKind.u8 i13]) fun r14=>
          za4 r14 fun l15=>
          sif ((0:Nat)+List.length l5≤List.length l5) <|
          sif ((0:Nat)+List.length l15≤List.length l15) <|
          zat (zaK [D.sl Tag.lent (cut (0:Nat) (List.length l5) l5),D.sl Tag.lent (cut (0:Nat) (List.length l15) l15)]) fun r16=>
          za4 r16 fun l17=>
          letN (IntKind.wrap IntKind.i64 (i8+(1:Int))) fun n18=>
          sif (List.length l17=List.length l17) <|
          again4 (((l17,l6,i7,n18,PUnit.unit),PUnit.unit))))
        (sif (List.length l5=List.length l5) <|
        sif (List.all l5 D.free=true) <|
        some (D.sl Tag.own l5)))
      (((List.replicate (Int.toNat (↑(List.length l3):Int)) (D.int IntKind.u8 (0:Int)),a0,(↑(List.length a0):Int),(0:Int),PUnit.unit),PUnit.unit)))
theorem ztw (zaH:List D→Option D) (zaK:List D→Option D) (zaS:List D→Option D) (zbx:List D→Option D) (tga0:Tag) (a0:List D):denA Try.prog (zaA [(ID.synd_Scale,(.pure [1] zaH)),(ID.synd_Add,(.pure [1] zaK)),(ID.gf_Pow,(.pure [0] zaS)),(ID.synd_P_1,(.pure [0] zbx))]) zkr [1] ID.synd_sum [.sl tga0 a0,.fn 137 [] []]=ziP zaH zaK zaS zbx (D.lentL a0):=by kernel_rfl
theorem zpa (tga0:Tag) (a0:List D):zbF [.sl tga0 a0,.fn 137 [] []]=ziP zaH zaK zaS zbx (D.lentL a0):=ztw zaH zaK zaS zbx tga0 a0
noncomputable def ziQ (zaH:List D→Option D) (zaK:List D→Option D) (zaS:List D→Option D) (zbx:List D→Option D) (a0:List D):Option D:=
  brK ((↑(List.length a0):Int) == (0:Int))
    (some (D.sl Tag.own []))
    (getK a0 ((0:Nat)) fun d1=>
    asSl d1 fun t2 l3=>
    sif ((↑(List.length l3):Int)=(↑(List.length l3):Int)) <|
    sif ((↑(List.length l3):Int)*(1:Int)≤(140737488355328:Int)) <|
    sif ((↑(List.length l3):Int)≤(140737488355328:Int)) <|
    sif (Int.toNat (↑(List.length l3):Int)=List.length (List.replicate (Int.toNat (↑(List.length l3):Int)) (D.int IntKind.u8 (0:Int)))) <|
    zce (α:=(List D×List D×Int×Int×PUnit)×PUnit) (fun again4 ((l5,(l6,(i7,(i8,_)))),_)=>
      brK (decide (i8 < i7))
        (sif ((0:Int)≤i8) <|
        getK l6 (Int.toNat i8) fun d9=>
        asSl d9 fun t10 l11=>
        sif ((0:Nat)+List.length l5≤List.length l5) <|
        brK ((↑(List.length l11):Int) != (↑(List.length l5):Int))
          (some (D.sl Tag.own []))
          (zat (zaS [D.int IntKind.i64 i8]) fun r12=>
          asI IntKind.u8 r12 fun i13=>
          zat (zaH [D.sl t10 l11,D.int IntKind.u8 i13]) fun r14=>
          za4 r14 fun l15=>
          sif ((0:Nat)+List.length l5≤List.length l5) <|
          sif ((0:Nat)+List.length l15≤List.length l15) <|
          zat (zaK [D.sl Tag.lent (cut (0:Nat) (List.length l5) l5),D.sl Tag.lent (cut (0:Nat) (List.length l15) l15)]) fun r16=>
          za4 r16 fun l17=>
          letN (IntKind.wrap IntKind.i64 (i8+(1:Int))) fun n18=>
          sif (List.length l17=List.length l17) <|
          again4 (((l17,l6,i7,n18,PUnit.unit),PUnit.unit))))
        (sif (List.length l5=List.length l5) <|
        sif (List.all l5 D.free=true) <|
        some (D.sl Tag.own l5)))
      (((List.replicate (Int.toNat (↑(List.length l3):Int)) (D.int IntKind.u8 (0:Int)),a0,(↑(List.length a0):Int),(0:Int),PUnit.unit),PUnit.unit)))
theorem ztx (zaH:List D→Option D) (zaK:List D→Option D) (zaS:List D→Option D) (zbx:List D→Option D) (tga0:Tag) (a0:List D):denA Try.prog (zaA [(ID.synd_Scale,(.pure [1] zaH)),(ID.synd_Add,(.pure [1] zaK)),(ID.gf_Pow,(.pure [0] zaS)),(ID.synd_P_1,(.pure [0] zbx))]) zkr [1] ID.synd_sum [.sl tga0 a0,.fn 138 [] []]=ziQ zaH zaK zaS zbx (D.lentL a0):=by kernel_rfl
theorem zpb (tga0:Tag) (a0:List D):zbF [.sl tga0 a0,.fn 138 [] []]=ziQ zaH zaK zaS zbx (D.lentL a0):=ztx zaH zaK zaS zbx tga0 a0
def zsj:Ann:={ loops:=[] }
noncomputable def zbR:List D→Option D:=denP Try.prog (zaA [(ID.synd_sum,(.pure [1] zbF)),(ID.synd_P_1,(.pure [0] zbx))]) zsj [1] ID.synd_P
theorem zvf:za2 Try.prog ID.synd_P (.pure [1] zbR):=zau (zaC [znw,znv]) zbA ⟨Try.f110,by kernel_rfl,by kernel_rfl,by kernel_rfl⟩
noncomputable def zmr:Fact Try.prog:=⟨ID.synd_P,(.pure [1] zbR),zvf⟩
noncomputable def zty (zbF:List D→Option D) (zbx:List D→Option D) (a0:List D):Option D:=
  zat (zbF [D.sl Tag.lent a0,D.fn (137:Nat) [] []]) fun r1=>
  za4 r1 fun l2=>
  sif (List.length l2=List.length l2) <|
  sif (List.all l2 D.free=true) <|
  some (D.sl Tag.own l2)
theorem zBE (zbF:List D→Option D) (zbx:List D→Option D) (tga0:Tag) (a0:List D):denP Try.prog (zaA [(ID.synd_sum,(.pure [1] zbF)),(ID.synd_P_1,(.pure [0] zbx))]) zsj [1] ID.synd_P [.sl tga0 a0]=zty zbF zbx (D.lentL a0):=by kernel_rfl
theorem zwm (tga0:Tag) (a0:List D):zbR [.sl tga0 a0]=zty zbF zbx (D.lentL a0):=zBE zbF zbx tga0 a0
def zsk:Ann:={ loops:=[] }
noncomputable def zbS:List D→Option D:=denP Try.prog (zaA [(ID.synd_sum,(.pure [1] zbF)),(ID.gf_Pow,(.pure [0] zaS))]) zsk [1] ID.synd_Q
theorem zvg:za2 Try.prog ID.synd_Q (.pure [1] zbS):=zau (zaC [znw,zg0]) zbA ⟨Try.f111,by kernel_rfl,by kernel_rfl,by kernel_rfl⟩
noncomputable def zms:Fact Try.prog:=⟨ID.synd_Q,(.pure [1] zbS),zvg⟩
noncomputable def ztz (zbF:List D→Option D) (zaS:List D→Option D) (a0:List D):Option D:=
  zat (zbF [D.sl Tag.lent a0,D.fn (138:Nat) [] []]) fun r1=>
  za4 r1 fun l2=>
  sif (List.length l2=List.length l2) <|
  sif (List.all l2 D.free=true) <|
  some (D.sl Tag.own l2)
theorem zBF (zbF:List D→Option D) (zaS:List D→Option D) (tga0:Tag) (a0:List D):denP Try.prog (zaA [(ID.synd_sum,(.pure [1] zbF)),(ID.gf_Pow,(.pure [0] zaS))]) zsk [1] ID.synd_Q [.sl tga0 a0]=ztz zbF zaS (D.lentL a0):=by kernel_rfl
theorem zwn (tga0:Tag) (a0:List D):zbS [.sl tga0 a0]=ztz zbF zaS (D.lentL a0):=zBF zbF zaS tga0 a0
def zsl:Ann:={ loops:=[(0,[.val (.cell (.int .u8)),.dead,.dead,.val (.cell (.int .u8)),.dead,.val (.cell (.int .i64))])] }
noncomputable def zen:List D→Option D:=denP Try.prog (zaA [(ID.gf_double,(.pure [0] zaY))]) zsl [0] ID.gf_Log
theorem zvh:za2 Try.prog ID.gf_Log (.pure [0] zen):=zau (zaC [zhD]) zbA ⟨Try.f145,by kernel_rfl,by kernel_rfl,by kernel_rfl⟩
noncomputable def zwo:Fact Try.prog:=⟨ID.gf_Log,(.pure [0] zen),zvh⟩
noncomputable def ztA (zaY:List D→Option D) (a0:Int):Option D:=
  zce (α:=(Int×Int×Int×PUnit)×PUnit) (fun again1 ((i2,(i3,(i4,_))),_)=>
    brK (decide (i4 < (255:Int)))
      (brK (i3 == i2)
        (some (D.int IntKind.i64 i4))
        (zat (zaY [D.int IntKind.u8 i3]) fun r5=>
        asI IntKind.u8 r5 fun i6=>
        letN (IntKind.wrap IntKind.i64 (i4+(1:Int))) fun n7=>
        again1 (((i2,i6,n7,PUnit.unit),PUnit.unit))))
      (some (D.int IntKind.i64 (-1:Int))))
    (((a0,(1:Int),(0:Int),PUnit.unit),PUnit.unit))
theorem zBG (zaY:List D→Option D) (a0:Int):denP Try.prog (zaA [(ID.gf_double,(.pure [0] zaY))]) zsl [0] ID.gf_Log [.int .u8 a0]=ztA zaY a0:=by kernel_rfl
theorem zwp (a0:Int):zen [.int .u8 a0]=ztA zaY a0:=zBG zaY a0
def zsm:Ann:={ loops:=[] }
noncomputable def zcu:List D→Option D:=denP Try.prog (zaA [(ID.gf_Log,(.pure [0] zen)),(ID.gf_Pow,(.pure [0] zaS))]) zsm [0] ID.gf_Inv
theorem zvi:za2 Try.prog ID.gf_Inv (.pure [0] zcu):=zau (zaC [zwo,zg0]) zbA ⟨Try.f141,by kernel_rfl,by kernel_rfl,by kernel_rfl⟩
noncomputable def zqO:Fact Try.prog:=⟨ID.gf_Inv,(.pure [0] zcu),zvi⟩
noncomputable def ztB (zen:List D→Option D) (zaS:List D→Option D) (a0:Int):Option D:=
  brK (a0 == (0:Int))
    (some (D.int IntKind.u8 (0:Int)))
    (zat (zen [D.int IntKind.u8 a0]) fun r1=>
    asI IntKind.i64 r1 fun i2=>
    letN (IntKind.wrap IntKind.i64 ((255:Int) - i2)) fun n3=>
    zat (zaS [D.int IntKind.i64 n3]) fun r4=>
    asI IntKind.u8 r4 fun i5=>
    some (D.int IntKind.u8 i5))
theorem zBH (zen:List D→Option D) (zaS:List D→Option D) (a0:Int):denP Try.prog (zaA [(ID.gf_Log,(.pure [0] zen)),(ID.gf_Pow,(.pure [0] zaS))]) zsm [0] ID.gf_Inv [.int .u8 a0]=ztB zen zaS a0:=by kernel_rfl
theorem zwq (a0:Int):zcu [.int .u8 a0]=ztB zen zaS a0:=zBH zen zaS a0
def znx:Ann:={ loops:=[] }
noncomputable def zcz:List D→Option D:=denP Try.prog (zaA [(ID.synd_P,(.pure [1] zbR)),(ID.synd_Add,(.pure [1] zaK)),(ID.synd_Q,(.pure [1] zbS)),(ID.gf_Pow,(.pure [0] zaS)),(ID.gf_Inv,(.pure [0] zcu)),(ID.synd_Scale,(.pure [1] zaH))]) znx [1,1] ID.erase_two
theorem zqP:za2 Try.prog ID.erase_two (.pure [1,1] zcz):=zau (zaC [zmr,zgp,zms,zg0,zqO,zgZ]) zbA ⟨Try.f131,by kernel_rfl,by kernel_rfl,by kernel_rfl⟩
noncomputable def zrl:Fact Try.prog:=⟨ID.erase_two,(.pure [1,1] zcz),zqP⟩
noncomputable def zmt (zbR:List D→Option D) (zaK:List D→Option D) (zbS:List D→Option D) (zaS:List D→Option D) (zcu:List D→Option D) (zaH:List D→Option D) (a0:List D) (a1:List D) (a2:List D) (a3:Int) (a4:Int):Option D:=
  zat (zbR [D.sl Tag.lent a2]) fun r1=>
  za4 r1 fun l2=>
  sif ((0:Nat)+List.length l2≤List.length l2) <|
  zat (zaK [D.sl Tag.lent a0,D.sl Tag.lent (cut (0:Nat) (List.length l2) l2)]) fun r3=>
  za4 r3 fun l4=>
  zat (zbS [D.sl Tag.lent a2]) fun r5=>
  za4 r5 fun l6=>
  sif ((0:Nat)+List.length l6≤List.length l6) <|
  zat (zaK [D.sl Tag.lent a1,D.sl Tag.lent (cut (0:Nat) (List.length l6) l6)]) fun r7=>
  za4 r7 fun l8=>
  zat (zaS [D.int IntKind.i64 a3]) fun r9=>
  asI IntKind.u8 r9 fun i10=>
  zat (zaS [D.int IntKind.i64 a4]) fun r11=>
  asI IntKind.u8 r11 fun i12=>
  letN (bits BinOp.xor IntKind.u8 i10 i12) fun n13=>
  zat (zcu [D.int IntKind.u8 n13]) fun r14=>
  asI IntKind.u8 r14 fun i15=>
  zat (zaS [D.int IntKind.i64 a4]) fun r16=>
  asI IntKind.u8 r16 fun i17=>
  sif ((0:Nat)+List.length l4≤List.length l4) <|
  zat (zaH [D.sl Tag.lent (cut (0:Nat) (List.length l4) l4),D.int IntKind.u8 i17]) fun r18=>
  za4 r18 fun l19=>
  sif ((0:Nat)+List.length l8≤List.length l8) <|
  sif ((0:Nat)+List.length l19≤List.length l19) <|
  zat (zaK [D.sl Tag.lent (cut (0:Nat) (List.length l8) l8),D.sl Tag.lent (cut (0:Nat) (List.length l19) l19)]) fun r20=>
  za4 r20 fun l21=>
  sif ((0:Nat)+List.length l21≤List.length l21) <|
  zat (zaH [D.sl Tag.lent (cut (0:Nat) (List.length l21) l21),D.int IntKind.u8 i15]) fun r22=>
  za4 r22 fun l23=>
  sif ((0:Nat)+List.length l4≤List.length l4) <|
  sif ((0:Nat)+List.length l23≤List.length l23) <|
  zat (zaK [D.sl Tag.lent (cut (0:Nat) (List.length l4) l4),D.sl Tag.lent (cut (0:Nat) (List.length l23) l23)]) fun r24=>
  za4 r24 fun l25=>
  sif (List.length l23=List.length l23) <|
  sif (List.all l23 D.free=true) <|
  sif (List.length l25=List.length l25) <|
  sif (List.all l25 D.free=true) <|
  some (D.tup [D.sl Tag.own l23,D.sl Tag.own l25])
theorem zwr (zbR:List D→Option D) (zaK:List D→Option D) (zbS:List D→Option D) (zaS:List D→Option D) (zcu:List D→Option D) (zaH:List D→Option D) (tga0:Tag) (tga1:Tag) (tga2:Tag) (a0:List D) (a1:List D) (a2:List D) (a3:Int) (a4:Int):denP Try.prog (zaA [(ID.synd_P,(.pure [1] zbR)),(ID.synd_Add,(.pure [1] zaK)),(ID.synd_Q,(.pure [1] zbS)),(ID.gf_Pow,(.pure [0] zaS)),(ID.gf_Inv,(.pure [0] zcu)),(ID.synd_Scale,(.pure [1] zaH))]) znx [1,1] ID.erase_two [.sl tga0 a0,.sl tga1 a1,.sl tga2 a2,.int .i64 a3,.int .i64 a4]=zmt zbR zaK zbS zaS zcu zaH (D.lentL a0) (D.lentL a1) (D.lentL a2) a3 a4:=by kernel_rfl
theorem zrm (tga0:Tag) (tga1:Tag) (tga2:Tag) (a0:List D) (a1:List D) (a2:List D) (a3:Int) (a4:Int):zcz [.sl tga0 a0,.sl tga1 a1,.sl tga2 a2,.int .i64 a3,.int .i64 a4]=zmt zbR zaK zbS zaS zcu zaH (D.lentL a0) (D.lentL a1) (D.lentL a2) a3 a4:=zwr zbR zaK zbS zaS zcu zaH tga0 tga1 tga2 a0 a1 a2 a3 a4
def zny:Ann:={ loops:=[] }
noncomputable def zcj:List D→Option D:=denP Try.prog (zaA [(ID.synd_Q,(.pure [1] zbS)),(ID.synd_Add,(.pure [1] zaK)),(ID.gf_Pow,(.pure [0] zaS)),(ID.gf_Inv,(.pure [0] zcu)),(ID.synd_Scale,(.pure [1] zaH))]) zny [1] ID.erase_byQ
theorem zqQ:za2 Try.prog ID.erase_byQ (.pure [1] zcj):=zau (zaC [zms,zgp,zg0,zqO,zgZ]) zbA ⟨Try.f133,by kernel_rfl,by kernel_rfl,by kernel_rfl⟩
noncomputable def zrn:Fact Try.prog:=⟨ID.erase_byQ,(.pure [1] zcj),zqQ⟩
noncomputable def zmu (zbS:List D→Option D) (zaK:List D→Option D) (zaS:List D→Option D) (zcu:List D→Option D) (zaH:List D→Option D) (a0:List D) (a1:List D) (a2:Int):Option D:=
  zat (zbS [D.sl Tag.lent a1]) fun r1=>
  za4 r1 fun l2=>
  sif ((0:Nat)+List.length l2≤List.length l2) <|
  zat (zaK [D.sl Tag.lent a0,D.sl Tag.lent (cut (0:Nat) (List.length l2) l2)]) fun r3=>
  za4 r3 fun l4=>
  zat (zaS [D.int IntKind.i64 a2]) fun r5=>
  asI IntKind.u8 r5 fun i6=>
  zat (zcu [D.int IntKind.u8 i6]) fun r7=>
  asI IntKind.u8 r7 fun i8=>
  sif ((0:Nat)+List.length l4≤List.length l4) <|
  zat (zaH [D.sl Tag.lent (cut (0:Nat) (List.length l4) l4),D.int IntKind.u8 i8]) fun r9=>
  za4 r9 fun l10=>
  sif (List.length l10=List.length l10) <|
  sif (List.all l10 D.free=true) <|
  some (D.sl Tag.own l10)
theorem zws (zbS:List D→Option D) (zaK:List D→Option D) (zaS:List D→Option D) (zcu:List D→Option D) (zaH:List D→Option D) (tga0:Tag) (tga1:Tag) (a0:List D) (a1:List D) (a2:Int):denP Try.prog (zaA [(ID.synd_Q,(.pure [1] zbS)),(ID.synd_Add,(.pure [1] zaK)),(ID.gf_Pow,(.pure [0] zaS)),(ID.gf_Inv,(.pure [0] zcu)),(ID.synd_Scale,(.pure [1] zaH))]) zny [1] ID.erase_byQ [.sl tga0 a0,.sl tga1 a1,.int .i64 a2]=zmu zbS zaK zaS zcu zaH (D.lentL a0) (D.lentL a1) a2:=by kernel_rfl
theorem zro (tga0:Tag) (tga1:Tag) (a0:List D) (a1:List D) (a2:Int):zcj [.sl tga0 a0,.sl tga1 a1,.int .i64 a2]=zmu zbS zaK zaS zcu zaH (D.lentL a0) (D.lentL a1) a2:=zws zbS zaK zaS zcu zaH tga0 tga1 a0 a1 a2
def zks:Ann:={ loops:=[] }
noncomputable def zbX:List D→Option D:=denP Try.prog (zaA [(ID.erase_Missing,(.pure [1] zbC)),(ID.erase_fits,(.pure [0] zb1)),(ID.erase_filled,(.pure [1] zbK)),(ID.erase_two,(.pure [1,1] zcz)),(ID.synd_P,(.pure [1] zbR)),(ID.synd_Add,(.pure [1] zaK)),(ID.erase_byQ,(.pure [1] zcj))]) zks [1,0] ID.erase_Solve
theorem zog:za2 Try.prog ID.erase_Solve (.pure [1,0] zbX):=zau (zaC [znp,zqJ,zod,zrl,zmr,zgp,zrn]) zbA ⟨Try.f105,by kernel_rfl,by kernel_rfl,by kernel_rfl⟩
noncomputable def zpc:Fact Try.prog:=⟨ID.erase_Solve,(.pure [1,0] zbX),zog⟩
noncomputable def ziR (zbC:List D→Option D) (zb1:List D→Option D) (zbK:List D→Option D) (zcz:List D→Option D) (zbR:List D→Option D) (zaK:List D→Option D) (zcj:List D→Option D) (a0:Int) (a1:List D) (a2:List D) (a3:List D):Option D:=
  zat (zbC [D.sl Tag.lent a3]) fun r1=>
  za4 r1 fun l2=>
  brK (decide (a0 < (1:Int)))
    (some (D.tup [D.sl Tag.own [],D.bool false]))
    (brK (decide ((↑(List.length a3):Int) < (1:Int)))
      (some (D.tup [D.sl Tag.own [],D.bool false]))
      (brK (decide ((↑(List.length a3):Int) > (8:Int)))
        (some (D.tup [D.sl Tag.own [],D.bool false]))
        (zat (zb1 [D.int IntKind.i64 a0,D.sl Tag.lent a3]) fun r3=>
        asB r3 fun b4=>
        brK (!b4)
          (some (D.tup [D.sl Tag.own [],D.bool false]))
          (zat (zb1 [D.int IntKind.i64 a0,D.sl Tag.full [D.sl Tag.lent a1,D.sl Tag.lent a2]]) fun r5=>
          asB r5 fun b6=>
          brK (!b6)
            (some (D.tup [D.sl Tag.own [],D.bool false]))
            (sif ((0:Nat)+List.length l2≤List.length l2) <|
            zat (zbC [D.sl Tag.full [D.sl Tag.lent a1,D.sl Tag.lent a2]]) fun r7=>
            za4 r7 fun l8=>
            sif ((0:Nat)+List.length l8≤List.length l8) <|
            letN (IntKind.wrap IntKind.i64 ((↑(List.length l2):Int)+(↑(List.length l8):Int))) fun n9=>
            brK (decide (n9 > (2:Int)))
              (some (D.tup [D.sl Tag.own [],D.bool false]))
              (zat (zbK [D.int IntKind.i64 a0,D.sl Tag.lent a3]) fun r10=>
              za4 r10 fun l11=>
              sif ((0:Nat)+List.length l2≤List.length l2) <|
              brK ((↑(List.length l2):Int) == (2:Int))
                (sif ((0:Nat) < List.length l2) <|
                getK l2 ((0:Nat)) fun d12=>
                asI IntKind.i64 d12 fun i13=>
                sif ((1:Nat) < List.length l2) <|
                getK l2 ((1:Nat)) fun d14=>
                asI IntKind.i64 d14 fun i15=>
                sif ((0:Nat) < List.length l2) <|
                getK l2 ((0:Nat)) fun d16=>
                asI IntKind.i64 d16 fun i17=>
                sif ((1:Nat) < List.length l2) <|
                getK l2 ((1:Nat)) fun d18=>
                asI IntKind.i64 d18 fun i19=>
                sif ((0:Nat)+List.length l11≤List.length l11) <|
                zat (zcz [D.sl Tag.lent a1,D.sl Tag.lent a2,D.sl Tag.lent (cut (0:Nat) (List.length l11) l11),D.int IntKind.i64 i17,D.int IntKind.i64 i19]) fun r20=>
                zeq r20 fun ts21=>
                zaB ([Lf.any,Lf.any]) ts21 fun c22=>
                za4 c22.fst fun l23=>
                za4 c22.snd.fst fun l24=>
                sif ((0:Int)≤i13) <|
                sif (Int.toNat i13 < List.length l11) <|
                sif ((0:Nat)+List.length l23≤List.length l23) <|
                getK l11 ((0:Nat)+Int.toNat i13) fun d25=>
                sif ((0:Nat)+List.length l23≤List.length l23) <|
                sif (D.isAgg d25=false) <|
                sif ((0:Int)≤i15) <|
                sif (Int.toNat i15 < List.length l11) <|
                sif ((0:Nat)+List.length l24≤List.length l24) <|
                getK (List.set l11 ((0:Nat)+Int.toNat i13) (D.sl Tag.fresh (cut (0:Nat) (List.length l23) l23))) ((0:Nat)+Int.toNat i15) fun d26=>
                sif ((0:Nat)+List.length l24≤List.length l24) <|
                sif (D.isAgg d26=false) <|
                sif (List.length l11=List.length (List.set (List.set l11 ((0:Nat)+Int.toNat i13) (D.sl Tag.fresh (cut (0:Nat) (List.length l23) l23))) ((0:Nat)+Int.toNat i15) (D.sl Tag.fresh (cut (0:Nat) (List.length l24) l24)))) <|
                sif (List.all (List.set (List.set l11 ((0:Nat)+Int.toNat i13) (D.sl Tag.fresh (cut (0:Nat) (List.length l23) l23))) ((0:Nat)+Int.toNat i15) (D.sl Tag.fresh (cut (0:Nat) (List.length l24) l24))) D.free=true) <|
                some (D.tup [D.sl Tag.own (List.set (List.set l11 ((0:Nat)+Int.toNat i13) (D.sl Tag.fresh (cut (0:Nat) (List.length l23) l23))) ((0:Nat)+Int.toNat i15) (D.sl Tag.fresh (cut (0:Nat) (List.length l24) l24))),D.bool true]))
                (sif ((0:Nat)+List.length l2≤List.length l2) <|
                brK ((↑(List.length l2):Int) == (1:Int))
                  (brK (decide ((↑(List.length a1):Int) > (0:Int)))
                    (sif ((0:Nat) < List.length l2) <|
                    getK l2 ((0:Nat)) fun d27=>
                    asI IntKind.i64 d27 fun i28=>
                    sif ((0:Nat)+List.length l11≤List.length l11) <|
                    zat (zbR [D.sl Tag.lent (cut (0:Nat) (List.length l11) l11)]) fun r29=>
                    za4 r29 fun l30=>
                    sif ((0:Nat)+List.length l30≤List.length l30) <|
                    zat (zaK [D.sl Tag.lent a1,D.sl Tag.lent (cut (0:Nat) (List.length l30) l30)]) fun r31=>
                    za4 r31 fun l32=>
                    sif ((0:Int)≤i28) <|
                    sif (Int.toNat i28 < List.length l11) <|
                    sif ((0:Nat)+List.length l32≤List.length l32) <|
                    getK l11 ((0:Nat)+Int.toNat i28) fun d33=>
                    sif ((0:Nat)+List.length l32≤List.length l32) <|
                    sif (D.isAgg d33=false) <|
                    sif (List.length l11=List.length (List.set l11 ((0:Nat)+Int.toNat i28) (D.sl Tag.fresh (cut (0:Nat) (List.length l32) l32)))) <|
                    sif (List.all (List.set l11 ((0:Nat)+Int.toNat i28) (D.sl Tag.fresh (cut (0:Nat) (List.length l32) l32))) D.free=true) <|
                    some (D.tup [D.sl Tag.own (List.set l11 ((0:Nat)+Int.toNat i28) (D.sl Tag.fresh (cut (0:Nat) (List.length l32) l32))),D.bool true]))
                    (sif ((0:Nat)+List.length l2≤List.length l2) <|
                    brK ((↑(List.length l2):Int) == (1:Int))
                      (sif ((0:Nat) < List.length l2) <|
                      getK l2 ((0:Nat)) fun d34=>
                      asI IntKind.i64 d34 fun i35=>
                      sif ((0:Nat) < List.length l2) <|
                      getK l2 ((0:Nat)) fun d36=>
                      asI IntKind.i64 d36 fun i37=>
                      sif ((0:Nat)+List.length l11≤List.length l11) <|
                      zat (zcj [D.sl Tag.lent a2,D.sl Tag.lent (cut (0:Nat) (List.length l11) l11),D.int IntKind.i64 i37]) fun r38=>
                      za4 r38 fun l39=>
                      sif ((0:Int)≤i35) <|
                      sif (Int.toNat i35 < List.length l11) <|
                      sif ((0:Nat)+List.length l39≤List.length l39) <|
                      getK l11 ((0:Nat)+Int.toNat i35) fun d40=>
                      sif ((0:Nat)+List.length l39≤List.length l39) <|
                      sif (D.isAgg d40=false) <|
                      sif (List.length l11=List.length (List.set l11 ((0:Nat)+Int.toNat i35) (D.sl Tag.fresh (cut (0:Nat) (List.length l39) l39)))) <|
                      sif (List.all (List.set l11 ((0:Nat)+Int.toNat i35) (D.sl Tag.fresh (cut (0:Nat) (List.length l39) l39))) D.free=true) <|
                      some (D.tup [D.sl Tag.own (List.set l11 ((0:Nat)+Int.toNat i35) (D.sl Tag.fresh (cut (0:Nat) (List.length l39) l39))),D.bool true]))
                      (sif (List.length l11=List.length l11) <|
                      sif (List.all l11 D.free=true) <|
                      some (D.tup [D.sl Tag.own l11,D.bool true]))))
                  (sif ((0:Nat)+List.length l2≤List.length l2) <|
                  brK ((↑(List.length l2):Int) == (1:Int))
                    (sif ((0:Nat) < List.length l2) <|
                    getK l2 ((0:Nat)) fun d41=>
                    asI IntKind.i64 d41 fun i42=>
                    sif ((0:Nat) < List.length l2) <|
                    getK l2 ((0:Nat)) fun d43=>
                    asI IntKind.i64 d43 fun i44=>
                    sif ((0:Nat)+List.length l11≤List.length l11) <|
                    zat (zcj [D.sl Tag.lent a2,D.sl Tag.lent (cut (0:Nat) (List.length l11) l11),D.int IntKind.i64 i44]) fun r45=>
                    za4 r45 fun l46=>
                    sif ((0:Int)≤i42) <|
                    sif (Int.toNat i42 < List.length l11) <|
                    sif ((0:Nat)+List.length l46≤List.length l46) <|
                    getK l11 ((0:Nat)+Int.toNat i42) fun d47=>
                    sif ((0:Nat)+List.length l46≤List.length l46) <|
                    sif (D.isAgg d47=false) <|
                    sif (List.length l11=List.length (List.set l11 ((0:Nat)+Int.toNat i42) (D.sl Tag.fresh (cut (0:Nat) (List.length l46) l46)))) <|
                    sif (List.all (List.set l11 ((0:Nat)+Int.toNat i42) (D.sl Tag.fresh (cut (0:Nat) (List.length l46) l46))) D.free=true) <|
                    some (D.tup [D.sl Tag.own (List.set l11 ((0:Nat)+Int.toNat i42) (D.sl Tag.fresh (cut (0:Nat) (List.length l46) l46))),D.bool true]))
                    (sif (List.length l11=List.length l11) <|
                    sif (List.all l11 D.free=true) <|
                    some (D.tup [D.sl Tag.own l11,D.bool true]))))))))))
theorem ztC (zbC:List D→Option D) (zb1:List D→Option D) (zbK:List D→Option D) (zcz:List D→Option D) (zbR:List D→Option D) (zaK:List D→Option D) (zcj:List D→Option D) (tga1:Tag) (tga2:Tag) (tga3:Tag) (a0:Int) (a1:List D) (a2:List D) (a3:List D):denP Try.prog (zaA [(ID.erase_Missing,(.pure [1] zbC)),(ID.erase_fits,(.pure [0] zb1)),(ID.erase_filled,(.pure [1] zbK)),(ID.erase_two,(.pure [1,1] zcz)),(ID.synd_P,(.pure [1] zbR)),(ID.synd_Add,(.pure [1] zaK)),(ID.erase_byQ,(.pure [1] zcj))]) zks [1,0] ID.erase_Solve [.int .i64 a0,.sl tga1 a1,.sl tga2 a2,.sl tga3 a3]=ziR zbC zb1 zbK zcz zbR zaK zcj a0 (D.lentL a1) (D.lentL a2) (D.lentL a3):=by kernel_rfl
theorem zpd (tga1:Tag) (tga2:Tag) (tga3:Tag) (a0:Int) (a1:List D) (a2:List D) (a3:List D):zbX [.int .i64 a0,.sl tga1 a1,.sl tga2 a2,.sl tga3 a3]=ziR zbC zb1 zbK zcz zbR zaK zcj a0 (D.lentL a1) (D.lentL a2) (D.lentL a3):=ztC zbC zb1 zbK zcz zbR zaK zcj tga1 tga2 tga3 a0 a1 a2 a3
def zoT:Ann:={ loops:=[(1,[.dead,.val (.cell (.int .i64)),.val (.cell .lent),.box true [(.int .i64),(.int .i64),(.int .i64)],.dead,.dead,.dead,.dead,.own 1,.dead,.dead,.dead,.dead,.dead,.dead,.dead,.dead,.dead,.dead,.dead,.dead,.dead,.dead,.dead,.val (.cell (.int .i64)),.val (.cell (.int .i64))])] }
noncomputable def zcU:List D→Option D:=denP Try.prog (zaA [(ID.row_in,(.pure [0] zct)),(ID.geom_Width,(.pure [0] zaP)),(ID.place_Disk,(.pure [0] zbi)),(ID.place_Parity,(.pure [0,0] zaJ)),(ID.erase_Solve,(.pure [1,0] zbX))]) zoT [1,0] ID.row_Take
theorem zrp:za2 Try.prog ID.row_Take (.pure [1,0] zcU):=zau (zaC [zqE,zgW,zkn,zfu,zpc]) zbA ⟨Try.f71,by kernel_rfl,by kernel_rfl,by kernel_rfl⟩
noncomputable def ztD:Fact Try.prog:=⟨ID.row_Take,(.pure [1,0] zcU),zrp⟩
noncomputable def zoh (zct:List D→Option D) (zaP:List D→Option D) (zbi:List D→Option D) (zaJ:List D→Option D) (zbX:List D→Option D) (a0_0:Int) (a0_1:Int) (a0_2:Int) (a1:Int) (a2:List D):Option D:=
  zat (zct [D.agg [D.int IntKind.i64 a0_0,D.int IntKind.i64 a0_1,D.int IntKind.i64 a0_2],D.int IntKind.i64 a1]) fun r1=>
  asB r1 fun b2=>
  brK (!b2)
    (some (D.tup [D.sl Tag.own [],D.bool false]))
    (brK ((↑(List.length a2):Int) != a0_1)
      (some (D.tup [D.sl Tag.own [],D.bool false]))
      (zat (zaP [D.agg [D.int IntKind.i64 a0_0,D.int IntKind.i64 a0_1,D.int IntKind.i64 a0_2]]) fun r3=>
      asI IntKind.i64 r3 fun i4=>
      zce (α:=(Int×List D×(Int×Int×Int×PUnit)×List D×Int×Int×PUnit)×PUnit) (fun again5 ((i6,(l7,((i8,(i9,(i10,_))),(l11,(i12,(i13,_)))))),_)=>
        brK (decide (i13 < i12))
          (zat (zbi [D.agg [D.int IntKind.i64 i8,D.int IntKind.i64 i9,D.int IntKind.i64 i10],D.int IntKind.i64 i6,D.int IntKind.i64 i13]) fun r14=>
          asI IntKind.i64 r14 fun i15=>
          sif ((0:Int)≤i15) <|
          getK l7 (Int.toNat i15) fun d16=>
          asSl d16 fun t17 l18=>
          sif (List.length l11+(1:Nat)≤(4294967296:Nat)) <|
          sif (List.length l11=List.length l11) <|
          letN (IntKind.wrap IntKind.i64 (i13+(1:Int))) fun n19=>
          sif (List.length l11+(1:Nat)=List.length (l11++[D.sl t17 l18])) <|
          again5 (((i6,l7,(i8,i9,i10,PUnit.unit),l11++[D.sl t17 l18],i12,n19,PUnit.unit),PUnit.unit)))
          (zat (zaJ [D.agg [D.int IntKind.i64 i8,D.int IntKind.i64 i9,D.int IntKind.i64 i10],D.int IntKind.i64 i6]) fun r20=>
          zeq r20 fun ts21=>
          zaB ([Lf.any,Lf.any]) ts21 fun c22=>
          asI IntKind.i64 c22.fst fun i23=>
          asI IntKind.i64 c22.snd.fst fun i24=>
          brK (decide (i24 < (0:Int)))
            (sif ((0:Int)≤i23) <|
            getK l7 (Int.toNat i23) fun d25=>
            asSl d25 fun t26 l27=>
            sif ((0:Nat)+List.length l11≤List.length l11) <|
            zat (zbX [D.int IntKind.i64 (32:Int),D.sl t26 l27,D.sl Tag.nil [],D.sl Tag.lent (cut (0:Nat) (List.length l11) l11)]) fun r28=>
            zeq r28 fun ts29=>
            zaB ([Lf.any,Lf.any]) ts29 fun c30=>
            za4 c30.fst fun l31=>
            asB c30.snd.fst fun b32=>
            sif (List.length l31=List.length l31) <|
            sif (List.all l31 D.free=true) <|
            some (D.tup [D.sl Tag.own l31,D.bool b32]))
            (sif ((0:Int)≤i23) <|
            getK l7 (Int.toNat i23) fun d33=>
            asSl d33 fun t34 l35=>
            sif ((0:Int)≤i24) <|
            getK l7 (Int.toNat i24) fun d36=>
            asSl d36 fun t37 l38=>
            sif ((0:Nat)+List.length l11≤List.length l11) <|
            zat (zbX [D.int IntKind.i64 (32:Int),D.sl t34 l35,D.sl t37 l38,D.sl Tag.lent (cut (0:Nat) (List.length l11) l11)]) fun r39=>
            zeq r39 fun ts40=>
            zaB ([Lf.any,Lf.any]) ts40 fun c41=>
            za4 c41.fst fun l42=>
            asB c41.snd.fst fun b43=>
            sif (List.length l42=List.length l42) <|
            sif (List.all l42 D.free=true) <|
            some (D.tup [D.sl Tag.own l42,D.bool b43]))))
        (((a1,a2,(a0_0,a0_1,a0_2,PUnit.unit),[],i4,(0:Int),PUnit.unit),PUnit.unit))))
theorem zyj (zct:List D→Option D) (zaP:List D→Option D) (zbi:List D→Option D) (zaJ:List D→Option D) (zbX:List D→Option D) (tga2:Tag) (a0_0:Int) (a0_1:Int) (a0_2:Int) (a1:Int) (a2:List D):denP Try.prog (zaA [(ID.row_in,(.pure [0] zct)),(ID.geom_Width,(.pure [0] zaP)),(ID.place_Disk,(.pure [0] zbi)),(ID.place_Parity,(.pure [0,0] zaJ)),(ID.erase_Solve,(.pure [1,0] zbX))]) zoT [1,0] ID.row_Take [.agg [.int .i64 a0_0,.int .i64 a0_1,.int .i64 a0_2],.int .i64 a1,.sl tga2 a2]=zoh zct zaP zbi zaJ zbX a0_0 a0_1 a0_2 a1 (D.lentL a2):=by kernel_rfl
theorem ztE (tga2:Tag) (a0_0:Int) (a0_1:Int) (a0_2:Int) (a1:Int) (a2:List D):zcU [.agg [.int .i64 a0_0,.int .i64 a0_1,.int .i64 a0_2],.int .i64 a1,.sl tga2 a2]=zoh zct zaP zbi zaJ zbX a0_0 a0_1 a0_2 a1 (D.lentL a2):=zyj zct zaP zbi zaJ zbX tga2 a0_0 a0_1 a0_2 a1 a2
def zkt:Ann:={ loops:=[(1,[.val (.cell (.hnd (3840:Nat))),.val (.cell .lent),.dead,.val (.cell (.int .i64)),.dead,.dead,.box true [(.int .i64),(.int .i64),(.int .i64)],.dead,.dead,.dead,.own 1,.dead,.dead,.dead,.dead,.dead,.dead,.dead,.dead,.dead,.dead,.dead,.dead,.dead,.dead,.dead,.dead,.dead,.dead,.dead,.dead,.val (.cell (.int .i64)),.val (.cell (.int .i64))])],ks:=[(3840,false),(7649,false)] }
noncomputable def zbO:List D→List Tb→Option Ans:=denS Try.prog (zaA [(ID.geom_Check,(.pure [0] zas)),(ID.stripe_up,(.st [] [0] [(3840,false),(7649,false)] za1)),(ID.bench_Bench_Read,(.st [] [1,0] [(3840,false),(7649,false)] zaL)),(ID.row_Take,(.pure [1,0] zcU))]) zkt [1,0] ID.stripe_Read
theorem zoi:za2 Try.prog ID.stripe_Read (.st [] [1,0] [(3840,false),(7649,false)] zbO):=za9 (zaC [zdO,zhz,zfQ,ztD]) zbA ⟨Try.f21,by kernel_rfl,by kernel_rfl,by kernel_rfl⟩
noncomputable def zpe:Fact Try.prog:=⟨ID.stripe_Read,(.st [] [1,0] [(3840,false),(7649,false)] zbO),zoi⟩
noncomputable def ziS (zas:List D→Option D) (za1:List D→List Tb→Option Ans) (zaL:List D→List Tb→Option Ans) (zcU:List D→Option D) (a0:Nat) (a1:List D) (a2_0:Int) (a2_1:Int) (a2_2:Int) (a3:Int) (T0:Tb) (T1:Tb):Option Ans:=
  zat (zas [D.agg [D.int IntKind.i64 a2_0,D.int IntKind.i64 a2_1,D.int IntKind.i64 a2_2]]) fun r1=>
  asI IntKind.i64 r1 fun i2=>
  brK (i2 != (0:Int))
    (some (Ans.mk (D.tup [D.sl Tag.own [],D.int IntKind.i64 (1:Int)]) [] []))
    (brK (decide (a3 < (0:Int)))
      (some (Ans.mk (D.tup [D.sl Tag.own [],D.int IntKind.i64 (1:Int)]) [] []))
      (brK (decide (a3≥(16:Int)))
        (some (Ans.mk (D.tup [D.sl Tag.own [],D.int IntKind.i64 (1:Int)]) [] []))
        (sif ((0:Int)≤a2_1) <|
        sif (a2_1=a2_1) <|
        sif (a2_1*(24:Int)≤(140737488355328:Int)) <|
        sif (a2_1≤(140737488355328:Int)) <|
        sif ((0:Nat)+Int.toNat a2_1≤List.length (List.replicate (Int.toNat a2_1) (D.sl Tag.nil []))) <|
        sif (Int.toNat a2_1=List.length (List.replicate (Int.toNat a2_1) (D.sl Tag.nil []))) <|
        zce (α:=(Nat×List D×Int×(Int×Int×Int×PUnit)×List D×Int×Int×PUnit)×List (List D)×List (List D)×PUnit) (fun again3 ((x4,(l5,(i6,((i7,(i8,(i9,_))),(l10,(i11,(i12,_))))))),(U13,(U14,_)))=>
          brK (decide (i12 < i11))
            (zat (za1 [D.h (3840) x4 (0:Nat),D.sl Tag.lent l5,D.int IntKind.i64 i12] [U13,U14]) fun r15=>
            nilK r15.outs <|
            nilK r15.tbs <|
            asB r15.r fun b16=>
            brK (!b16)
              (letN (IntKind.wrap IntKind.i64 (i12+(1:Int))) fun n17=>
              sif (List.length l10=List.length l10) <|
              again3 (((x4,l5,i6,(i7,i8,i9,PUnit.unit),l10,i11,n17,PUnit.unit),U13,U14,PUnit.unit)))
              (letN (IntKind.wrap IntKind.i64 ((36:Int)+i6)) fun n18=>
              zat (zaL [D.h (3840) x4 (0:Nat),D.int IntKind.i64 i12,D.int IntKind.i64 n18] [U13,U14]) fun r19=>
              nilK r19.outs <|
              nilK r19.tbs <|
              zeq r19.r fun ts20=>
              zaB ([Lf.any,Lf.any]) ts20 fun c21=>
              za4 c21.fst fun l22=>
              asI IntKind.i64 c21.snd.fst fun i23=>
              brK (i23 != (0:Int))
                (some (Ans.mk (D.tup [D.sl Tag.own [],D.int IntKind.i64 i23]) [] []))
                (sif ((0:Int)≤i12) <|
                sif (Int.toNat i12 < List.length l10) <|
                sif ((0:Nat)+List.length l22≤List.length l22) <|
                getK l10 ((0:Nat)+Int.toNat i12) fun d24=>
                sif ((0:Nat)+List.length l22≤List.length l22) <|
                sif (D.isAgg d24=false) <|
                letN (IntKind.wrap IntKind.i64 (i12+(1:Int))) fun n25=>
                sif (List.length l10=List.length (List.set l10 ((0:Nat)+Int.toNat i12) (D.sl Tag.fresh (cut (0:Nat) (List.length l22) l22)))) <|
                again3 (((x4,l5,i6,(i7,i8,i9,PUnit.unit),List.set l10 ((0:Nat)+Int.toNat i12) (D.sl Tag.fresh (cut (0:Nat) (List.length l22) l22)),i11,n25,PUnit.unit),U13,U14,PUnit.unit)))))
            (sif ((0:Nat)+List.length l10≤List.length l10) <|
            zat (zcU [D.agg [D.int IntKind.i64 i7,D.int IntKind.i64 i8,D.int IntKind.i64 i9],D.int IntKind.i64 i6,D.sl Tag.lent (cut (0:Nat) (List.length l10) l10)]) fun r26=>
            zeq r26 fun ts27=>
            zaB ([Lf.any,Lf.any]) ts27 fun c28=>
            za4 c28.fst fun l29=>
            asB c28.snd.fst fun b30=>
            brK (!b30)
              (some (Ans.mk (D.tup [D.sl Tag.own [],D.int IntKind.i64 (7:Int)]) [] []))
              (sif (List.length l29=List.length l29) <|
              sif (List.all l29 D.free=true) <|
              some (Ans.mk (D.tup [D.sl Tag.own l29,D.int IntKind.i64 (0:Int)]) [] []))))
          (((a0,a1,a3,(a2_0,a2_1,a2_2,PUnit.unit),List.replicate (Int.toNat a2_1) (D.sl Tag.nil []),(↑(Int.toNat a2_1):Int),(0:Int),PUnit.unit),T0,T1,PUnit.unit)))))
theorem ztF (zas:List D→Option D) (za1:List D→List Tb→Option Ans) (zaL:List D→List Tb→Option Ans) (zcU:List D→Option D) (tga1:Tag) (a0:Nat) (a1:List D) (a2_0:Int) (a2_1:Int) (a2_2:Int) (a3:Int) (T0:Tb) (T1:Tb):denS Try.prog (zaA [(ID.geom_Check,(.pure [0] zas)),(ID.stripe_up,(.st [] [0] [(3840,false),(7649,false)] za1)),(ID.bench_Bench_Read,(.st [] [1,0] [(3840,false),(7649,false)] zaL)),(ID.row_Take,(.pure [1,0] zcU))]) zkt [1,0] ID.stripe_Read [.h 3840 a0 0,.sl tga1 a1,.agg [.int .i64 a2_0,.int .i64 a2_1,.int .i64 a2_2],.int .i64 a3] [T0,T1]=ziS zas za1 zaL zcU a0 (D.lentL a1) a2_0 a2_1 a2_2 a3 T0 T1:=by kernel_rfl
theorem zpf (tga1:Tag) (a0:Nat) (a1:List D) (a2_0:Int) (a2_1:Int) (a2_2:Int) (a3:Int) (T0:Tb) (T1:Tb):zbO [.h 3840 a0 0,.sl tga1 a1,.agg [.int .i64 a2_0,.int .i64 a2_1,.int .i64 a2_2],.int .i64 a3] [T0,T1]=ziS zas za1 zaL zcU a0 (D.lentL a1) a2_0 a2_1 a2_2 a3 T0 T1:=ztF zas za1 zaL zcU tga1 a0 a1 a2_0 a2_1 a2_2 a3 T0 T1
def zgc:Ann:={ loops:=[] }
noncomputable def zbo:List D→Option D:=denP Try.prog (zaA [(ID.wattleref01_Width,(.pure [0] zac)),(ID.wattleplay_Sectors,(.pure [1] zak))]) zgc [1] ID.wattlelaw14_Data
theorem zjs:za2 Try.prog ID.wattlelaw14_Data (.pure [1] zbo):=zau (zaC [zci,zdg]) zbA ⟨Try.f24,by kernel_rfl,by kernel_rfl,by kernel_rfl⟩
noncomputable def zku:Fact Try.prog:=⟨ID.wattlelaw14_Data,(.pure [1] zbo),zjs⟩
noncomputable def ze4 (zac:List D→Option D) (zak:List D→Option D) (a0_0:Int) (a0_1:Int) (a0_2:Int) (a1:Int) (a2:List D):Option D:=
  letN (min a1 (↑(List.length a2):Int)) fun n1=>
  sif ((0:Int)≤n1) <|
  sif (n1≤(↑(List.length a2):Int)) <|
  sif ((↑(List.length a2):Int)≤(↑(List.length a2):Int)) <|
  sif ((↑(List.length a2):Int)=(↑(List.length a2):Int)) <|
  sif (zvI (1:Nat) a2=true) <|
  zat (zac [D.agg [D.int IntKind.i64 a0_0,D.int IntKind.i64 a0_1,D.int IntKind.i64 a0_2]]) fun r2=>
  asI IntKind.i64 r2 fun i3=>
  zat (zak [D.sl (zdU Tag.lent false (decide ((↑(List.length a2):Int)=(↑(List.length a2):Int)))) (cutI n1 (↑(List.length a2):Int) a2),D.int IntKind.i64 i3]) fun r4=>
  za4 r4 fun l5=>
  sif (List.length l5=List.length l5) <|
  sif (List.all l5 D.free=true) <|
  some (D.sl Tag.own l5)
theorem znz (zac:List D→Option D) (zak:List D→Option D) (tga2:Tag) (a0_0:Int) (a0_1:Int) (a0_2:Int) (a1:Int) (a2:List D):denP Try.prog (zaA [(ID.wattleref01_Width,(.pure [0] zac)),(ID.wattleplay_Sectors,(.pure [1] zak))]) zgc [1] ID.wattlelaw14_Data [.agg [.int .i64 a0_0,.int .i64 a0_1,.int .i64 a0_2],.int .i64 a1,.sl tga2 a2]=ze4 zac zak a0_0 a0_1 a0_2 a1 (D.lentL a2):=by kernel_rfl
theorem zkv (tga2:Tag) (a0_0:Int) (a0_1:Int) (a0_2:Int) (a1:Int) (a2:List D):zbo [.agg [.int .i64 a0_0,.int .i64 a0_1,.int .i64 a0_2],.int .i64 a1,.sl tga2 a2]=ze4 zac zak a0_0 a0_1 a0_2 a1 (D.lentL a2):=znz zac zak tga2 a0_0 a0_1 a0_2 a1 a2
def zeI:Ann:={ loops:=[(1,[.val (.cell .lent),.val (.cell .lent),.dead,.dead,.dead,.val (.cell (.int .i64))])] }
noncomputable def zax:List D→Option D:=denP Try.prog (zaA []) zeI [0] ID.wattlekeep_Same_byte
theorem zg8:za2 Try.prog ID.wattlekeep_Same_byte (.pure [0] zax):=zau (zaC []) zbA ⟨Try.f30,by kernel_rfl,by kernel_rfl,by kernel_rfl⟩
noncomputable def zek:Fact Try.prog:=⟨ID.wattlekeep_Same_byte,(.pure [0] zax),zg8⟩
noncomputable def zdt (a0:List D) (a1:List D):Option D:=
  brK ((↑(List.length a0):Int) != (↑(List.length a1):Int))
    (some (D.bool false))
    (zce (α:=(List D×List D×Int×PUnit)×PUnit) (fun again1 ((l2,(l3,(i4,_))),_)=>
      brK (decide (i4 < (↑(List.length l2):Int)))
        (sif ((0:Int)≤i4) <|
        getK l2 (Int.toNat i4) fun d5=>
        asI IntKind.u8 d5 fun i6=>
        sif ((0:Int)≤i4) <|
        getK l3 (Int.toNat i4) fun d7=>
        asI IntKind.u8 d7 fun i8=>
        brK (i6 != i8)
          (some (D.bool false))
          (letN (IntKind.wrap IntKind.i64 (i4+(1:Int))) fun n9=>
          again1 (((l2,l3,n9,PUnit.unit),PUnit.unit))))
        (some (D.bool true)))
      (((a0,a1,(0:Int),PUnit.unit),PUnit.unit)))
theorem zjt (tga0:Tag) (tga1:Tag) (a0:List D) (a1:List D):denP Try.prog (zaA []) zeI [0] ID.wattlekeep_Same_byte [.sl tga0 a0,.sl tga1 a1]=zdt (D.lentL a0) (D.lentL a1):=by kernel_rfl
theorem zhE (tga0:Tag) (tga1:Tag) (a0:List D) (a1:List D):zax [.sl tga0 a0,.sl tga1 a1]=zdt (D.lentL a0) (D.lentL a1):=zjt tga0 tga1 a0 a1
def zfR:Ann:={ loops:=[],ks:=[(3840,true),(7649,true)] }
noncomputable def za6:List D→Option D:=denT Try.prog (zaA [(ID.bench_New,(.st [] [0,0] [(3840,true),(7649,true)] zbq)),(ID.stripe_Read,(.st [] [1,0] [(3840,false),(7649,false)] zbO)),(ID.wattlekeep_Same_byte,(.pure [0] zax))]) zfR [0] ID.wattlelaw14_wakes
theorem ziT:za2 Try.prog ID.wattlelaw14_wakes (.pure [0] za6):=zr6 (zaC [zlI,zpe,zek]) zbA ⟨Try.f28,by kernel_rfl,by kernel_rfl,by kernel_rfl⟩
noncomputable def zju:Fact Try.prog:=⟨ID.wattlelaw14_wakes,(.pure [0] za6),ziT⟩
noncomputable def zez (zbq:List D→List Tb→Option Ans) (zbO:List D→List Tb→Option Ans) (zax:List D→Option D):Option D:=
  zat (zbq [D.int IntKind.i64 (3:Int)] [[],[]]) fun r1=>
  nilK r1.outs <|
  zer r1.tbs fun c2 q3=>
  zer q3 fun c4 q5=>
  nilK q5 <|
  zeq r1.r fun ts6=>
  zaB ([Lf.any,Lf.any]) ts6 fun c7=>
  sif (zi2 c7.fst=true) <|
  asI IntKind.i64 c7.snd.fst fun i8=>
  brK (i8 != (0:Int))
    (some (D.bool false))
    (znL c7.fst fun b9=>
    brK b9
      (some (D.bool false))
      (zat (zbO [c7.fst,D.sl Tag.full [D.bool true,D.bool true,D.bool true],D.agg [D.int IntKind.i64 (5:Int),D.int IntKind.i64 (3:Int),D.int IntKind.i64 (1:Int)],D.int IntKind.i64 (4:Int)] [c2,c4]) fun r10=>
      nilK r10.outs <|
      nilK r10.tbs <|
      zeq r10.r fun ts11=>
      zaB ([Lf.any,Lf.any]) ts11 fun c12=>
      za4 c12.fst fun l13=>
      asI IntKind.i64 c12.snd.fst fun i14=>
      brK (i14 == (0:Int))
        (sif ((0:Nat)+List.length l13≤List.length l13) <|
        brK ((↑(List.length l13):Int) == (2:Int))
          (sif ((0:Nat) < List.length l13) <|
          getK l13 ((0:Nat)) fun d15=>
          asSl d15 fun t16 l17=>
          zat (zax [D.sl t16 l17,D.sl Tag.lent [D.int IntKind.u8 (0:Int),D.int IntKind.u8 (0:Int),D.int IntKind.u8 (0:Int),D.int IntKind.u8 (0:Int),D.int IntKind.u8 (0:Int),D.int IntKind.u8 (0:Int),D.int IntKind.u8 (0:Int),D.int IntKind.u8 (0:Int),D.int IntKind.u8 (0:Int),D.int IntKind.u8 (0:Int),D.int IntKind.u8 (0:Int),D.int IntKind.u8 (0:Int),D.int IntKind.u8 (0:Int),D.int IntKind.u8 (0:Int),D.int IntKind.u8 (0:Int),D.int IntKind.u8 (0:Int),D.int IntKind.u8 (0:Int),D.int IntKind.u8 (0:Int),D.int IntKind.u8 (0:Int),D.int IntKind.u8 (0:Int),D.int IntKind.u8 (0:Int),D.int IntKind.u8 (0:Int),D.int IntKind.u8 (0:Int),D.int IntKind.u8 (0:Int),D.int IntKind.u8 (0:Int),D.int IntKind.u8 (0:Int),D.int IntKind.u8 (0:Int),D.int IntKind.u8 (0:Int),D.int IntKind.u8 (0:Int),D.int IntKind.u8 (0:Int),D.int IntKind.u8 (0:Int),D.int IntKind.u8 (0:Int)]]) fun r18=>
          asB r18 fun b19=>
          some (D.bool b19))
          (some (D.bool false)))
        (some (D.bool false))))
theorem zmv (zbq:List D→List Tb→Option Ans) (zbO:List D→List Tb→Option Ans) (zax:List D→Option D):denT Try.prog (zaA [(ID.bench_New,(.st [] [0,0] [(3840,true),(7649,true)] zbq)),(ID.stripe_Read,(.st [] [1,0] [(3840,false),(7649,false)] zbO)),(ID.wattlekeep_Same_byte,(.pure [0] zax))]) zfR [0] ID.wattlelaw14_wakes []=sif (D.nohL []=true) (zez zbq zbO zax ):=by kernel_rfl
theorem zjv:za6 []=sif (D.nohL []=true) (zez zbq zbO zax ):=zmv zbq zbO zax
def zkw:Ann:={ loops:=[] }
noncomputable def zb3:List D→Option D:=denP Try.prog (zaA [(ID.slices_ContainsFunc_byte_byte,(.pure [0] zae)),(ID.row_sectors_1,(.pure [0] zap))]) zkw [0] ID.row_sectors
theorem zoj:za2 Try.prog ID.row_sectors (.pure [0] zb3):=zau (zaC [zcN,ze3]) zbA ⟨Try.f108,by kernel_rfl,by kernel_rfl,by kernel_rfl⟩
noncomputable def zpg:Fact Try.prog:=⟨ID.row_sectors,(.pure [0] zb3),zoj⟩
noncomputable def ziU (zae:List D→Option D) (zap:List D→Option D) (a0:List D):Option D:=
  zat (zae [D.sl Tag.lent a0,D.fn (135:Nat) [] []]) fun r1=>
  asB r1 fun b2=>
  some (D.bool !b2)
theorem ztG (zae:List D→Option D) (zap:List D→Option D) (tga0:Tag) (a0:List D):denP Try.prog (zaA [(ID.slices_ContainsFunc_byte_byte,(.pure [0] zae)),(ID.row_sectors_1,(.pure [0] zap))]) zkw [0] ID.row_sectors [.sl tga0 a0]=ziU zae zap (D.lentL a0):=by kernel_rfl
theorem zph (tga0:Tag) (a0:List D):zb3 [.sl tga0 a0]=ziU zae zap (D.lentL a0):=ztG zae zap tga0 a0
def zoU:Ann:={ loops:=[(1,[.dead,.val (.cell (.int .i64)),.val (.cell .lent),.box true [(.int .i64),(.int .i64),(.int .i64)],.dead,.dead,.dead,.dead,.own 1,.dead,.dead,.dead,.dead,.dead,.dead,.dead,.dead,.dead,.dead,.dead,.dead,.dead,.dead,.dead,.dead,.dead,.dead,.dead,.dead,.dead,.dead,.dead,.val (.cell .lent),.val (.cell (.int .i64)),.val (.cell (.int .i64))])] }
noncomputable def zcV:List D→Option D:=denP Try.prog (zaA [(ID.row_in,(.pure [0] zct)),(ID.geom_Width,(.pure [0] zaP)),(ID.row_sectors,(.pure [0] zb3)),(ID.place_Disk,(.pure [0] zbi)),(ID.slices_Clone_byte_byte,(.pure [1] zam)),(ID.place_Parity,(.pure [0,0] zaJ)),(ID.synd_P,(.pure [1] zbR)),(ID.synd_Q,(.pure [1] zbS))]) zoU [1,0] ID.row_Fill
theorem zrq:za2 Try.prog ID.row_Fill (.pure [1,0] zcV):=zau (zaC [zqE,zgW,zpg,zkn,zdP,zfu,zmr,zms]) zbA ⟨Try.f77,by kernel_rfl,by kernel_rfl,by kernel_rfl⟩
noncomputable def ztH:Fact Try.prog:=⟨ID.row_Fill,(.pure [1,0] zcV),zrq⟩
noncomputable def zok (zct:List D→Option D) (zaP:List D→Option D) (zb3:List D→Option D) (zbi:List D→Option D) (zam:List D→Option D) (zaJ:List D→Option D) (zbR:List D→Option D) (zbS:List D→Option D) (a0_0:Int) (a0_1:Int) (a0_2:Int) (a1:Int) (a2:List D):Option D:=
  zat (zct [D.agg [D.int IntKind.i64 a0_0,D.int IntKind.i64 a0_1,D.int IntKind.i64 a0_2],D.int IntKind.i64 a1]) fun r1=>
  asB r1 fun b2=>
  brK (!b2)
    (some (D.tup [D.sl Tag.own [],D.bool false]))
    (zat (zaP [D.agg [D.int IntKind.i64 a0_0,D.int IntKind.i64 a0_1,D.int IntKind.i64 a0_2]]) fun r3=>
    asI IntKind.i64 r3 fun i4=>
    brK ((↑(List.length a2):Int) != i4)
      (some (D.tup [D.sl Tag.own [],D.bool false]))
      (zat (zb3 [D.sl Tag.lent a2]) fun r5=>
      asB r5 fun b6=>
      brK (!b6)
        (some (D.tup [D.sl Tag.own [],D.bool false]))
        (sif ((0:Int)≤a0_1) <|
        sif (a0_1=a0_1) <|
        sif (a0_1*(24:Int)≤(140737488355328:Int)) <|
        sif (a0_1≤(140737488355328:Int)) <|
        sif (Int.toNat a0_1=List.length (List.replicate (Int.toNat a0_1) (D.sl Tag.nil []))) <|
        zce (α:=(Int×List D×(Int×Int×Int×PUnit)×List D×List D×Int×Int×PUnit)×PUnit) (fun again7 ((i8,(l9,((i10,(i11,(i12,_))),(l13,(l14,(i15,(i16,_))))))),_)=>
          brK (decide (i16 < i15))
            (sif ((0:Int)≤i16) <|
            getK l14 (Int.toNat i16) fun d17=>
            asSl d17 fun t18 l19=>
            zat (zbi [D.agg [D.int IntKind.i64 i10,D.int IntKind.i64 i11,D.int IntKind.i64 i12],D.int IntKind.i64 i8,D.int IntKind.i64 i16]) fun r20=>
            asI IntKind.i64 r20 fun i21=>
            zat (zam [D.sl t18 l19]) fun r22=>
            za4 r22 fun l23=>
            sif ((0:Int)≤i21) <|
            sif (Int.toNat i21 < List.length l13) <|
            sif ((0:Nat)+List.length l23≤List.length l23) <|
            getK l13 ((0:Nat)+Int.toNat i21) fun d24=>
            sif ((0:Nat)+List.length l23≤List.length l23) <|
            sif (D.isAgg d24=false) <|
            letN (IntKind.wrap IntKind.i64 (i16+(1:Int))) fun n25=>
            sif (List.length l13=List.length (List.set l13 ((0:Nat)+Int.toNat i21) (D.sl Tag.fresh (cut (0:Nat) (List.length l23) l23)))) <|
            again7 (((i8,l9,(i10,i11,i12,PUnit.unit),List.set l13 ((0:Nat)+Int.toNat i21) (D.sl Tag.fresh (cut (0:Nat) (List.length l23) l23)),l14,i15,n25,PUnit.unit),PUnit.unit)))
            (zat (zaJ [D.agg [D.int IntKind.i64 i10,D.int IntKind.i64 i11,D.int IntKind.i64 i12],D.int IntKind.i64 i8]) fun r26=>
            zeq r26 fun ts27=>
            zaB ([Lf.any,Lf.any]) ts27 fun c28=>
            asI IntKind.i64 c28.fst fun i29=>
            asI IntKind.i64 c28.snd.fst fun i30=>
            zat (zbR [D.sl Tag.lent l9]) fun r31=>
            za4 r31 fun l32=>
            sif ((0:Int)≤i29) <|
            sif (Int.toNat i29 < List.length l13) <|
            sif ((0:Nat)+List.length l32≤List.length l32) <|
            getK l13 ((0:Nat)+Int.toNat i29) fun d33=>
            sif ((0:Nat)+List.length l32≤List.length l32) <|
            sif (D.isAgg d33=false) <|
            brK (decide (i30≥(0:Int)))
              (zat (zbS [D.sl Tag.lent l9]) fun r34=>
              za4 r34 fun l35=>
              sif ((0:Int)≤i30) <|
              sif (Int.toNat i30 < List.length l13) <|
              sif ((0:Nat)+List.length l35≤List.length l35) <|
              getK (List.set l13 ((0:Nat)+Int.toNat i29) (D.sl Tag.fresh (cut (0:Nat) (List.length l32) l32))) ((0:Nat)+Int.toNat i30) fun d36=>
              sif ((0:Nat)+List.length l35≤List.length l35) <|
              sif (D.isAgg d36=false) <|
              sif (List.length l13=List.length (List.set (List.set l13 ((0:Nat)+Int.toNat i29) (D.sl Tag.fresh (cut (0:Nat) (List.length l32) l32))) ((0:Nat)+Int.toNat i30) (D.sl Tag.fresh (cut (0:Nat) (List.length l35) l35)))) <|
              sif (List.all (List.set (List.set l13 ((0:Nat)+Int.toNat i29) (D.sl Tag.fresh (cut (0:Nat) (List.length l32) l32))) ((0:Nat)+Int.toNat i30) (D.sl Tag.fresh (cut (0:Nat) (List.length l35) l35))) D.free=true) <|
              some (D.tup [D.sl Tag.own (List.set (List.set l13 ((0:Nat)+Int.toNat i29) (D.sl Tag.fresh (cut (0:Nat) (List.length l32) l32))) ((0:Nat)+Int.toNat i30) (D.sl Tag.fresh (cut (0:Nat) (List.length l35) l35))),D.bool true]))
              (sif (List.length l13=List.length (List.set l13 ((0:Nat)+Int.toNat i29) (D.sl Tag.fresh (cut (0:Nat) (List.length l32) l32)))) <|
              sif (List.all (List.set l13 ((0:Nat)+Int.toNat i29) (D.sl Tag.fresh (cut (0:Nat) (List.length l32) l32))) D.free=true) <|
              some (D.tup [D.sl Tag.own (List.set l13 ((0:Nat)+Int.toNat i29) (D.sl Tag.fresh (cut (0:Nat) (List.length l32) l32))),D.bool true]))))
          (((a1,a2,(a0_0,a0_1,a0_2,PUnit.unit),List.replicate (Int.toNat a0_1) (D.sl Tag.nil []),a2,(↑(List.length a2):Int),(0:Int),PUnit.unit),PUnit.unit)))))
theorem zyk (zct:List D→Option D) (zaP:List D→Option D) (zb3:List D→Option D) (zbi:List D→Option D) (zam:List D→Option D) (zaJ:List D→Option D) (zbR:List D→Option D) (zbS:List D→Option D) (tga2:Tag) (a0_0:Int) (a0_1:Int) (a0_2:Int) (a1:Int) (a2:List D):denP Try.prog (zaA [(ID.row_in,(.pure [0] zct)),(ID.geom_Width,(.pure [0] zaP)),(ID.row_sectors,(.pure [0] zb3)),(ID.place_Disk,(.pure [0] zbi)),(ID.slices_Clone_byte_byte,(.pure [1] zam)),(ID.place_Parity,(.pure [0,0] zaJ)),(ID.synd_P,(.pure [1] zbR)),(ID.synd_Q,(.pure [1] zbS))]) zoU [1,0] ID.row_Fill [.agg [.int .i64 a0_0,.int .i64 a0_1,.int .i64 a0_2],.int .i64 a1,.sl tga2 a2]=zok zct zaP zb3 zbi zam zaJ zbR zbS a0_0 a0_1 a0_2 a1 (D.lentL a2):=by kernel_rfl
theorem ztI (tga2:Tag) (a0_0:Int) (a0_1:Int) (a0_2:Int) (a1:Int) (a2:List D):zcV [.agg [.int .i64 a0_0,.int .i64 a0_1,.int .i64 a0_2],.int .i64 a1,.sl tga2 a2]=zok zct zaP zb3 zbi zam zaJ zbR zbS a0_0 a0_1 a0_2 a1 (D.lentL a2):=zyk zct zaP zb3 zbi zam zaJ zbR zbS tga2 a0_0 a0_1 a0_2 a1 a2
def zg1:Ann:={ loops:=[],pubs:=[(2,[(3,119,7649)])],ks:=[(7649,true)] }
noncomputable def zby:List D→List Tb→Option Ans:=denS Try.prog (zaA [(ID.slices_Clone_disk_write_disk_write,(.pure [33] zad))]) zg1 [0] ID.disk_Disk_Clone
theorem zkx:za2 Try.prog ID.disk_Disk_Clone (.st [] [0] [(7649,true)] zby):=za9 (zaC [zco]) zbA ⟨Try.f93,by kernel_rfl,by kernel_rfl,by kernel_rfl⟩
noncomputable def zlv:Fact Try.prog:=⟨ID.disk_Disk_Clone,(.st [] [0] [(7649,true)] zby),zkx⟩
noncomputable def zfw (zad:List D→Option D) (a0:Nat) (T0:Tb):Option Ans:=
  getK T0 a0 fun d1=>
  sif ((1666:Nat)≤List.length d1) <|
  sif (List.length (List.map D.hide (List.take (1666:Nat) (List.drop (0:Nat) d1)))=(1666:Nat)) <|
  getK T0 a0 fun d2=>
  getK d2 ((1664:Nat)) fun d3=>
  za4 d3 fun l4=>
  getK T0 a0 fun d5=>
  getK d5 ((1664:Nat)) fun d6=>
  za4 d6 fun l7=>
  sif ((0:Nat)+List.length l4≤List.length l7) <|
  zat (zad [D.sl Tag.lent (cut (0:Nat) (List.length l4) l7)]) fun r8=>
  za4 r8 fun l9=>
  sif ((0:Nat)+List.length l9≤List.length l9) <|
  sif ((1664:Nat) < List.length (spl (0:Nat) (1666:Nat) (List.reverse ([D.bool false,D.sl Tag.nil []]++List.replicate 1664 (D.int IntKind.u8 (0:Int)))) (List.map D.hide (List.take (1666:Nat) (List.drop (0:Nat) d1))))) <|
  sif (some (1666:Nat)=some (List.length (spl (0:Nat) (1666:Nat) (List.reverse ([D.bool false,D.sl Tag.nil []]++List.replicate 1664 (D.int IntKind.u8 (0:Int)))) (List.map D.hide (List.take (1666:Nat) (List.drop (0:Nat) d1)))))) <|
  sif (List.length l9=List.length l9) <|
  sif (zc6 l9=true) <|
  sif (zfH (33:Nat) l9=true) <|
  sif (List.all (List.set (spl (0:Nat) (1666:Nat) (List.reverse ([D.bool false,D.sl Tag.nil []]++List.replicate 1664 (D.int IntKind.u8 (0:Int)))) (List.map D.hide (List.take (1666:Nat) (List.drop (0:Nat) d1)))) (1664:Nat) D.nilp) D.own0ok=true) <|
  sif ((true && decide ((1:Nat)=(1:Nat)) && List.all [(1664:Nat)] fun k=>decide (k < List.length (spl (0:Nat) (1666:Nat) (List.reverse ([D.bool false,D.sl Tag.nil []]++List.replicate 1664 (D.int IntKind.u8 (0:Int)))) (List.map D.hide (List.take (1666:Nat) (List.drop (0:Nat) d1))))))=true) <|
  letT (T0++[List.set (List.map D.own0 (spl (0:Nat) (1666:Nat) (List.reverse ([D.bool false,D.sl Tag.nil []]++List.replicate 1664 (D.int IntKind.u8 (0:Int)))) (List.map D.hide (List.take (1666:Nat) (List.drop (0:Nat) d1))))) (1664:Nat) (D.sl Tag.own l9)]) fun U10=>
  some (Ans.mk (D.h (7649:Nat) (List.length T0) (0:Nat)) [] [U10])
theorem zol (zad:List D→Option D) (a0:Nat) (T0:Tb):denS Try.prog (zaA [(ID.slices_Clone_disk_write_disk_write,(.pure [33] zad))]) zg1 [0] ID.disk_Disk_Clone [.h 7649 a0 0] [T0]=zfw zad a0 T0:=by kernel_rfl
theorem zlw (a0:Nat) (T0:Tb):zby [.h 7649 a0 0] [T0]=zfw zad a0 T0:=zol zad a0 T0
def zg2:Ann:={ loops:=[],ks:=[(7649,true)] }
noncomputable def zbk:List D→List Tb→Option Ans:=denS Try.prog (zaA [(ID.disk_Disk_put,(.st [] [0,0] [(7649,false)] zaV))]) zg2 [0] ID.disk_Disk_Write
theorem zky:za2 Try.prog ID.disk_Disk_Write (.st [] [0] [(7649,true)] zbk):=za9 (zaC [zho]) zbA ⟨Try.f112,by kernel_rfl,by kernel_rfl,by kernel_rfl⟩
noncomputable def zlx:Fact Try.prog:=⟨ID.disk_Disk_Write,(.st [] [0] [(7649,true)] zbk),zky⟩
noncomputable def zfx (zaV:List D→List Tb→Option Ans) (a0:Nat) (a1:Int) (a2:List D) (T0:Tb):Option Ans:=
  zat (zaV [D.h (7649:Nat) a0 (0:Nat),D.int IntKind.i64 a1,D.sl Tag.lent a2] [T0]) fun r1=>
  nilK r1.outs <|
  nilK r1.tbs <|
  zeq r1.r fun ts2=>
  zaB ([Lf.any,Lf.any]) ts2 fun c3=>
  asAgg c3.fst fun cs4=>
  zaB ([Lf.int IntKind.i64,Lf.arr (32)]) cs4 fun c5=>
  asI IntKind.i64 c3.snd.fst fun i6=>
  sif (List.length ([D.int IntKind.i64 c5.fst]++(c5.snd.fst++[]))=(33:Nat)) <|
  brK (i6 == (0:Int))
    (getK T0 a0 fun d7=>
    getK d7 ((1664:Nat)) fun d8=>
    za4 d8 fun l9=>
    sif ((33:Nat)≤List.length ([D.int IntKind.i64 c5.fst]++(c5.snd.fst++[]))) <|
    zaB ([Lf.int IntKind.i64,Lf.arr (32)]) (List.take (33:Nat) (List.drop (0:Nat) ([D.int IntKind.i64 c5.fst]++(c5.snd.fst++[])))) fun c10=>
    sif (zd3 (33:Nat) [D.agg ([D.int IntKind.i64 c10.fst]++(c10.snd.fst++[]))]=true) <|
    getK T0 a0 fun d11=>
    getK d11 ((1664:Nat)) fun d12=>
    za4 d12 fun l13=>
    sif (List.length l9+(1:Nat)≤(4294967296:Nat)) <|
    sif (zd3 (33:Nat) [D.agg ([D.int IntKind.i64 c10.fst]++(c10.snd.fst++[]))]=true) <|
    sif (List.length l9=List.length l13) <|
    letT (setT T0 a0 (1664:Nat) D.undef) fun U14=>
    getK U14 a0 fun d15=>
    sif ((1665:Nat)≤List.length d15) <|
    sif (List.length l9+(1:Nat)=List.length (l13++[D.agg ([D.int IntKind.i64 c10.fst]++(c10.snd.fst++[]))])) <|
    sif (zc6 (l13++[D.agg ([D.int IntKind.i64 c10.fst]++(c10.snd.fst++[]))])=true) <|
    sif (zfH (33:Nat) (l13++[D.agg ([D.int IntKind.i64 c10.fst]++(c10.snd.fst++[]))])=true) <|
    letT (zaW U14 a0 (1664:Nat) [D.sl Tag.own (l13++[D.agg ([D.int IntKind.i64 c10.fst]++(c10.snd.fst++[]))])]) fun U16=>
    some (Ans.mk (D.int IntKind.i64 i6) [] [U16]))
    (some (Ans.mk (D.int IntKind.i64 i6) [] [T0]))
theorem zom (zaV:List D→List Tb→Option Ans) (tga2:Tag) (a0:Nat) (a1:Int) (a2:List D) (T0:Tb):denS Try.prog (zaA [(ID.disk_Disk_put,(.st [] [0,0] [(7649,false)] zaV))]) zg2 [0] ID.disk_Disk_Write [.h 7649 a0 0,.int .i64 a1,.sl tga2 a2] [T0]=zfx zaV a0 a1 (D.lentL a2) T0:=by kernel_rfl
theorem zly (tga2:Tag) (a0:Nat) (a1:Int) (a2:List D) (T0:Tb):zbk [.h 7649 a0 0,.int .i64 a1,.sl tga2 a2] [T0]=zfx zaV a0 a1 (D.lentL a2) T0:=zom zaV tga2 a0 a1 a2 T0
def ze5:Ann:={ loops:=[],ks:=[(3840,true)] }
noncomputable def za0:List D→List Tb→Option Ans:=denS Try.prog (zaA []) ze5 [0] ID.bench_counter_count
theorem zhF:za2 Try.prog ID.bench_counter_count (.st [] [0] [(3840,true)] za0):=za9 (zaC []) zbA ⟨Try.f113,by kernel_rfl,by kernel_rfl,by kernel_rfl⟩
noncomputable def zie:Fact Try.prog:=⟨ID.bench_counter_count,(.st [] [0] [(3840,true)] za0),zhF⟩
noncomputable def zdQ (a0:Nat) (T0:Tb):Option Ans:=
  getK T0 a0 fun d1=>
  getK d1 ((1:Nat)) fun d2=>
  asI IntKind.i64 d2 fun i3=>
  brK (i3 == (0:Int))
    (getK T0 a0 fun d4=>
    sif ((3:Nat)≤List.length d4) <|
    sif (zhu (List.take (1:Nat) (List.drop (2:Nat) d4))=true) <|
    letT (zaW T0 a0 (2:Nat) [D.bool true]) fun U5=>
    some (Ans.mk (D.bool false) [] [U5]))
    (getK T0 a0 fun d6=>
    getK d6 ((1:Nat)) fun d7=>
    asI IntKind.i64 d7 fun i8=>
    brK (decide (i8 > (0:Int)))
      (getK T0 a0 fun d9=>
      getK d9 ((1:Nat)) fun d10=>
      asI IntKind.i64 d10 fun i11=>
      letN (IntKind.wrap IntKind.i64 (i11 - (1:Int))) fun n12=>
      getK T0 a0 fun d13=>
      sif ((2:Nat)≤List.length d13) <|
      sif (zhu (List.take (1:Nat) (List.drop (1:Nat) d13))=true) <|
      letT (zaW T0 a0 (1:Nat) [D.int IntKind.i64 n12]) fun U14=>
      getK U14 a0 fun d15=>
      getK d15 ((0:Nat)) fun d16=>
      asI IntKind.i64 d16 fun i17=>
      letN (IntKind.wrap IntKind.i64 (i17+(1:Int))) fun n18=>
      getK U14 a0 fun d19=>
      sif ((1:Nat)≤List.length d19) <|
      sif (zhu (List.take (1:Nat) (List.drop (0:Nat) d19))=true) <|
      letT (zaW U14 a0 (0:Nat) [D.int IntKind.i64 n18]) fun U20=>
      some (Ans.mk (D.bool true) [] [U20]))
      (getK T0 a0 fun d21=>
      getK d21 ((0:Nat)) fun d22=>
      asI IntKind.i64 d22 fun i23=>
      letN (IntKind.wrap IntKind.i64 (i23+(1:Int))) fun n24=>
      getK T0 a0 fun d25=>
      sif ((1:Nat)≤List.length d25) <|
      sif (zhu (List.take (1:Nat) (List.drop (0:Nat) d25))=true) <|
      letT (zaW T0 a0 (0:Nat) [D.int IntKind.i64 n24]) fun U26=>
      some (Ans.mk (D.bool true) [] [U26])))
theorem zkz (a0:Nat) (T0:Tb):denS Try.prog (zaA []) ze5 [0] ID.bench_counter_count [.h 3840 a0 0] [T0]=zdQ a0 T0:=by kernel_rfl
theorem zif (a0:Nat) (T0:Tb):za0 [.h 3840 a0 0] [T0]=zdQ a0 T0:=zkz a0 T0
def zfS:Ann:={ loops:=[],ks:=[(3840,true),(7649,true)] }
noncomputable def zbe:List D→List Tb→Option Ans:=denS Try.prog (zaA [(ID.bench_Bench_may,(.st [] [0] [(3840,false)] zaw)),(ID.disk_Disk_Clone,(.st [] [0] [(7649,true)] zby)),(ID.disk_Disk_Write,(.st [] [0] [(7649,true)] zbk)),(ID.bench_counter_count,(.st [] [0] [(3840,true)] za0))]) zfS [0] ID.bench_Bench_Write
theorem ziV:za2 Try.prog ID.bench_Bench_Write (.st [] [0] [(3840,true),(7649,true)] zbe):=za9 (zaC [zed,zlv,zlx,zie]) zbA ⟨Try.f78,by kernel_rfl,by kernel_rfl,by kernel_rfl⟩
noncomputable def zjw:Fact Try.prog:=⟨ID.bench_Bench_Write,(.st [] [0] [(3840,true),(7649,true)] zbe),ziV⟩
noncomputable def zeA (zaw:List D→List Tb→Option Ans) (zby:List D→List Tb→Option Ans) (zbk:List D→List Tb→Option Ans) (za0:List D→List Tb→Option Ans) (a0:Nat) (a1:Int) (a2:Int) (a3:List D) (T0:Tb) (T1:Tb):Option Ans:=
  zat (zaw [D.h (3840:Nat) a0 (0:Nat),D.int IntKind.i64 a1] [T0]) fun r1=>
  nilK r1.outs <|
  nilK r1.tbs <|
  asI IntKind.i64 r1.r fun i2=>
  brK (i2 != (0:Int))
    (some (Ans.mk (D.int IntKind.i64 i2) [] [T0,T1]))
    (getK T0 a0 fun d3=>
    getK d3 ((3:Nat)) fun d4=>
    za4 d4 fun l5=>
    getK T0 a0 fun d6=>
    getK d6 ((3:Nat)) fun d7=>
    za4 d7 fun l8=>
    sif ((0:Int)≤a1) <|
    sif (Int.toNat a1 < List.length l5) <|
    getK T0 a0 fun d9=>
    getK d9 ((3:Nat)) fun d10=>
    za4 d10 fun l11=>
    getK l11 ((0:Nat)+Int.toNat a1) fun d12=>
    sif (D.isAgg d12=false) <|
    sif (D.width d12=(1:Nat)) <|
    sif (D.cell d12=true) <|
    zat (zby [d12] [T1]) fun r13=>
    nilK r13.outs <|
    zer r13.tbs fun c14 q15=>
    nilK q15 <|
    sif (zi2 r13.r=true) <|
    zat (zbk [r13.r,D.int IntKind.i64 a2,D.sl Tag.lent a3] [c14]) fun r16=>
    nilK r16.outs <|
    zer r16.tbs fun c17 q18=>
    nilK q18 <|
    asI IntKind.i64 r16.r fun i19=>
    brK (i19 != (0:Int))
      (some (Ans.mk (D.int IntKind.i64 i19) [] [T0,c17]))
      (zat (za0 [D.h (3840:Nat) a0 (0:Nat)] [T0]) fun r20=>
      nilK r20.outs <|
      zer r20.tbs fun c21 q22=>
      nilK q22 <|
      asB r20.r fun b23=>
      brK (!b23)
        (some (Ans.mk (D.int IntKind.i64 (6:Int)) [] [c21,c17]))
        (getK c21 a0 fun d24=>
        getK d24 ((3:Nat)) fun d25=>
        za4 d25 fun l26=>
        getK c21 a0 fun d27=>
        getK d27 ((3:Nat)) fun d28=>
        za4 d28 fun l29=>
        sif ((0:Int)≤a1) <|
        sif (Int.toNat a1 < List.length l26) <|
        getK c21 a0 fun d30=>
        getK d30 ((3:Nat)) fun d31=>
        za4 d31 fun l32=>
        getK l32 ((0:Nat)+Int.toNat a1) fun d33=>
        sif (D.isAgg d33=false) <|
        sif (D.width d33=(1:Nat)) <|
        sif (D.cell d33=true) <|
        zat (zbk [d33,D.int IntKind.i64 a2,D.sl Tag.lent a3] [c17]) fun r34=>
        nilK r34.outs <|
        zer r34.tbs fun c35 q36=>
        nilK q36 <|
        asI IntKind.i64 r34.r fun i37=>
        some (Ans.mk (D.int IntKind.i64 i37) [] [c21,c35]))))
theorem zmw (zaw:List D→List Tb→Option Ans) (zby:List D→List Tb→Option Ans) (zbk:List D→List Tb→Option Ans) (za0:List D→List Tb→Option Ans) (tga3:Tag) (a0:Nat) (a1:Int) (a2:Int) (a3:List D) (T0:Tb) (T1:Tb):denS Try.prog (zaA [(ID.bench_Bench_may,(.st [] [0] [(3840,false)] zaw)),(ID.disk_Disk_Clone,(.st [] [0] [(7649,true)] zby)),(ID.disk_Disk_Write,(.st [] [0] [(7649,true)] zbk)),(ID.bench_counter_count,(.st [] [0] [(3840,true)] za0))]) zfS [0] ID.bench_Bench_Write [.h 3840 a0 0,.int .i64 a1,.int .i64 a2,.sl tga3 a3] [T0,T1]=zeA zaw zby zbk za0 a0 a1 a2 (D.lentL a3) T0 T1:=by kernel_rfl
theorem zjx (tga3:Tag) (a0:Nat) (a1:Int) (a2:Int) (a3:List D) (T0:Tb) (T1:Tb):zbe [.h 3840 a0 0,.int .i64 a1,.int .i64 a2,.sl tga3 a3] [T0,T1]=zeA zaw zby zbk za0 a0 a1 a2 (D.lentL a3) T0 T1:=zmw zaw zby zbk za0 tga3 a0 a1 a2 a3 T0 T1
def zi9:Ann:={ loops:=[(1,[.val (.cell (.hnd (3840:Nat))),.val (.cell .lent),.dead,.val (.cell (.int .i64)),.dead,.dead,.dead,.dead,.dead,.dead,.dead,.dead,.dead,.dead,.dead,.dead,.dead,.dead,.dead,.dead,.dead,.dead,.dead,.dead,.dead,.own 1,.val (.cell (.int .i64)),.val (.cell (.int .i64))])],ks:=[(3840,true),(7649,true)] }
noncomputable def zbL:List D→List Tb→Option Ans:=denS Try.prog (zaA [(ID.row_Fill,(.pure [1,0] zcV)),(ID.stripe_up,(.st [] [0] [(3840,false),(7649,false)] za1)),(ID.bench_Bench_Write,(.st [] [0] [(3840,true),(7649,true)] zbe))]) zi9 [0] ID.stripe_Write
theorem znA:za2 Try.prog ID.stripe_Write (.st [] [0] [(3840,true),(7649,true)] zbL):=za9 (zaC [ztH,zhz,zjw]) zbA ⟨Try.f33,by kernel_rfl,by kernel_rfl,by kernel_rfl⟩
noncomputable def zon:Fact Try.prog:=⟨ID.stripe_Write,(.st [] [0] [(3840,true),(7649,true)] zbL),znA⟩
noncomputable def zhG (zcV:List D→Option D) (za1:List D→List Tb→Option Ans) (zbe:List D→List Tb→Option Ans) (a0:Nat) (a1:List D) (a2_0:Int) (a2_1:Int) (a2_2:Int) (a3:Int) (a4:List D) (T0:Tb) (T1:Tb):Option Ans:=
  zat (zcV [D.agg [D.int IntKind.i64 a2_0,D.int IntKind.i64 a2_1,D.int IntKind.i64 a2_2],D.int IntKind.i64 a3,D.sl Tag.lent a4]) fun r1=>
  zeq r1 fun ts2=>
  zaB ([Lf.any,Lf.any]) ts2 fun c3=>
  za4 c3.fst fun l4=>
  asB c3.snd.fst fun b5=>
  brK (!b5)
    (some (Ans.mk (D.int IntKind.i64 (1:Int)) [] [T0,T1]))
    (sif ((0:Nat)+List.length l4≤List.length l4) <|
    sif (List.length l4=List.length l4) <|
    zce (α:=(Nat×List D×Int×List D×Int×Int×PUnit)×List (List D)×List (List D)×PUnit) (fun again6 ((x7,(l8,(i9,(l10,(i11,(i12,_)))))),(U13,(U14,_)))=>
      brK (decide (i12 < i11))
        (sif ((0:Int)≤i12) <|
        sif (Int.toNat i12 < List.length l10) <|
        getK l10 ((0:Nat)+Int.toNat i12) fun d15=>
        asSl d15 fun t16 l17=>
        zat (za1 [D.h (3840) x7 (0:Nat),D.sl Tag.lent l8,D.int IntKind.i64 i12] [U13,U14]) fun r18=>
        nilK r18.outs <|
        nilK r18.tbs <|
        asB r18.r fun b19=>
        brK (!b19)
          (letN (IntKind.wrap IntKind.i64 (i12+(1:Int))) fun n20=>
          sif (List.length l10=List.length l10) <|
          again6 (((x7,l8,i9,l10,i11,n20,PUnit.unit),U13,U14,PUnit.unit)))
          (letN (IntKind.wrap IntKind.i64 ((36:Int)+i9)) fun n21=>
          zat (zbe [D.h (3840) x7 (0:Nat),D.int IntKind.i64 i12,D.int IntKind.i64 n21,D.sl t16 l17] [U13,U14]) fun r22=>
          nilK r22.outs <|
          zer r22.tbs fun c23 q24=>
          zer q24 fun c25 q26=>
          nilK q26 <|
          asI IntKind.i64 r22.r fun i27=>
          brK (i27 != (0:Int))
            (some (Ans.mk (D.int IntKind.i64 i27) [] [c23,c25]))
            (letN (IntKind.wrap IntKind.i64 (i12+(1:Int))) fun n28=>
            sif (List.length l10=List.length l10) <|
            again6 (((x7,l8,i9,l10,i11,n28,PUnit.unit),c23,c25,PUnit.unit)))))
        (some (Ans.mk (D.int IntKind.i64 (0:Int)) [] [U13,U14])))
      (((a0,a1,a3,l4,(↑(List.length l4):Int),(0:Int),PUnit.unit),T0,T1,PUnit.unit)))
theorem zrr (zcV:List D→Option D) (za1:List D→List Tb→Option Ans) (zbe:List D→List Tb→Option Ans) (tga1:Tag) (tga4:Tag) (a0:Nat) (a1:List D) (a2_0:Int) (a2_1:Int) (a2_2:Int) (a3:Int) (a4:List D) (T0:Tb) (T1:Tb):denS Try.prog (zaA [(ID.row_Fill,(.pure [1,0] zcV)),(ID.stripe_up,(.st [] [0] [(3840,false),(7649,false)] za1)),(ID.bench_Bench_Write,(.st [] [0] [(3840,true),(7649,true)] zbe))]) zi9 [0] ID.stripe_Write [.h 3840 a0 0,.sl tga1 a1,.agg [.int .i64 a2_0,.int .i64 a2_1,.int .i64 a2_2],.int .i64 a3,.sl tga4 a4] [T0,T1]=zhG zcV za1 zbe a0 (D.lentL a1) a2_0 a2_1 a2_2 a3 (D.lentL a4) T0 T1:=by kernel_rfl
theorem zoo (tga1:Tag) (tga4:Tag) (a0:Nat) (a1:List D) (a2_0:Int) (a2_1:Int) (a2_2:Int) (a3:Int) (a4:List D) (T0:Tb) (T1:Tb):zbL [.h 3840 a0 0,.sl tga1 a1,.agg [.int .i64 a2_0,.int .i64 a2_1,.int .i64 a2_2],.int .i64 a3,.sl tga4 a4] [T0,T1]=zhG zcV za1 zbe a0 (D.lentL a1) a2_0 a2_1 a2_2 a3 (D.lentL a4) T0 T1:=zrr zcV za1 zbe tga1 tga4 a0 a1 a2_0 a2_1 a2_2 a3 a4 T0 T1
def zg3:Ann:={ loops:=[(1,[.val (.cell (.hnd (7649:Nat))),.dead,.dead,.dead,.dead,.dead,.dead,.dead,.dead,.dead,.dead,.dead,.view 7649 1664,.val (.cell (.int .i64)),.val (.cell (.int .i64))])],ks:=[(7649,true)] }
noncomputable def zbz:List D→List Tb→Option Ans:=denS Try.prog (zaA []) zg3 [0] ID.disk_Disk_Flush
theorem zkA:za2 Try.prog ID.disk_Disk_Flush (.st [] [0] [(7649,true)] zbz):=za9 (zaC []) zbA ⟨Try.f114,by kernel_rfl,by kernel_rfl,by kernel_rfl⟩
noncomputable def zlz:Fact Try.prog:=⟨ID.disk_Disk_Flush,(.st [] [0] [(7649,true)] zbz),zkA⟩
noncomputable def zfy (a0:Nat) (T0:Tb):Option Ans:=
  getK T0 a0 fun d1=>
  getK d1 ((1665:Nat)) fun d2=>
  asB d2 fun b3=>
  brK b3
    (some (Ans.mk (D.int IntKind.i64 (5:Int)) [] [T0]))
    (getK T0 a0 fun d4=>
    getK d4 ((1664:Nat)) fun d5=>
    za4 d5 fun l6=>
    getK T0 a0 fun d7=>
    getK d7 ((1664:Nat)) fun d8=>
    za4 d8 fun l9=>
    sif ((0:Nat)+List.length l6≤List.length l9) <|
    zce (α:=(Nat×(Nat×Nat×Nat)×Int×Int×PUnit)×List (List D)×PUnit) (fun again10 ((x11,((x12,(x13,x14)),(i15,(i16,_)))),(U17,_))=>
      brK (decide (i16 < i15))
        (getK U17 x12 fun d18=>
        getK d18 ((1664:Nat)) fun d19=>
        za4 d19 fun l20=>
        sif ((0:Int)≤i16) <|
        sif (Int.toNat i16 < x14) <|
        getK U17 x12 fun d21=>
        getK d21 ((1664:Nat)) fun d22=>
        za4 d22 fun l23=>
        getK l23 (x13+Int.toNat i16) fun d24=>
        asAgg d24 fun cs25=>
        zaB ([Lf.int IntKind.i64,Lf.arr (32)]) cs25 fun c26=>
        sif (D.width (D.agg ([D.int IntKind.i64 c26.fst]++(c26.snd.fst++[])))=(33:Nat)) <|
        sif (List.length ([D.int IntKind.i64 c26.fst]++(c26.snd.fst++[]))=(33:Nat)) <|
        sif ((33:Nat)≤List.length ([D.int IntKind.i64 c26.fst]++(c26.snd.fst++[]))) <|
        sif (List.length (List.take (32:Nat) (List.drop (1:Nat) ([D.int IntKind.i64 c26.fst]++(c26.snd.fst++[]))))=(32:Nat)) <|
        sif ((0:Int)≤c26.fst) <|
        sif (Int.toNat c26.fst < (52:Nat)) <|
        getK U17 x11 fun d27=>
        sif ((0:Nat)+Int.toNat c26.fst*(32:Nat)+(32:Nat)≤List.length d27) <|
        sif (List.length (List.take (32:Nat) (List.drop (1:Nat) ([D.int IntKind.i64 c26.fst]++(c26.snd.fst++[]))))=(32:Nat)) <|
        sif (zhu (List.take (32:Nat) (List.drop (1:Nat) ([D.int IntKind.i64 c26.fst]++(c26.snd.fst++[]))))=true) <|
        sif (zhu (List.take (32:Nat) (List.drop ((0:Nat)+Int.toNat c26.fst*(32:Nat)) d27))=true) <|
        letT (zaW U17 x11 ((0:Nat)+Int.toNat c26.fst*(32:Nat)) (List.take (32:Nat) (List.drop (1:Nat) ([D.int IntKind.i64 c26.fst]++(c26.snd.fst++[]))))) fun U28=>
        letN (IntKind.wrap IntKind.i64 (i16+(1:Int))) fun n29=>
        again10 (((x11,(x12,x13,x14),i15,n29,PUnit.unit),U28,PUnit.unit)))
        (getK U17 x11 fun d30=>
        sif ((1665:Nat)≤List.length d30) <|
        letT (zaW U17 x11 (1664:Nat) [D.sl Tag.own []]) fun U31=>
        some (Ans.mk (D.int IntKind.i64 (0:Int)) [] [U31])))
      (((a0,(a0,(0:Nat),List.length l6),(↑(List.length l6):Int),(0:Int),PUnit.unit),T0,PUnit.unit)))
theorem zop (a0:Nat) (T0:Tb):denS Try.prog (zaA []) zg3 [0] ID.disk_Disk_Flush [.h 7649 a0 0] [T0]=zfy a0 T0:=by kernel_rfl
theorem zlA (a0:Nat) (T0:Tb):zbz [.h 7649 a0 0] [T0]=zfy a0 T0:=zop a0 T0
def zfT:Ann:={ loops:=[],ks:=[(3840,false),(7649,true)] }
noncomputable def zbf:List D→List Tb→Option Ans:=denS Try.prog (zaA [(ID.bench_Bench_may,(.st [] [0] [(3840,false)] zaw)),(ID.disk_Disk_Flush,(.st [] [0] [(7649,true)] zbz))]) zfT [0] ID.bench_Bench_Flush
theorem ziW:za2 Try.prog ID.bench_Bench_Flush (.st [] [0] [(3840,false),(7649,true)] zbf):=za9 (zaC [zed,zlz]) zbA ⟨Try.f79,by kernel_rfl,by kernel_rfl,by kernel_rfl⟩
noncomputable def zjy:Fact Try.prog:=⟨ID.bench_Bench_Flush,(.st [] [0] [(3840,false),(7649,true)] zbf),ziW⟩
noncomputable def zeB (zaw:List D→List Tb→Option Ans) (zbz:List D→List Tb→Option Ans) (a0:Nat) (a1:Int) (T0:Tb) (T1:Tb):Option Ans:=
  zat (zaw [D.h (3840:Nat) a0 (0:Nat),D.int IntKind.i64 a1] [T0]) fun r1=>
  nilK r1.outs <|
  nilK r1.tbs <|
  asI IntKind.i64 r1.r fun i2=>
  brK (i2 != (0:Int))
    (some (Ans.mk (D.int IntKind.i64 i2) [] [T1]))
    (getK T0 a0 fun d3=>
    getK d3 ((3:Nat)) fun d4=>
    za4 d4 fun l5=>
    getK T0 a0 fun d6=>
    getK d6 ((3:Nat)) fun d7=>
    za4 d7 fun l8=>
    sif ((0:Int)≤a1) <|
    sif (Int.toNat a1 < List.length l5) <|
    getK T0 a0 fun d9=>
    getK d9 ((3:Nat)) fun d10=>
    za4 d10 fun l11=>
    getK l11 ((0:Nat)+Int.toNat a1) fun d12=>
    sif (D.isAgg d12=false) <|
    sif (D.width d12=(1:Nat)) <|
    sif (D.cell d12=true) <|
    zat (zbz [d12] [T1]) fun r13=>
    nilK r13.outs <|
    zer r13.tbs fun c14 q15=>
    nilK q15 <|
    asI IntKind.i64 r13.r fun i16=>
    some (Ans.mk (D.int IntKind.i64 i16) [] [c14]))
theorem zmx (zaw:List D→List Tb→Option Ans) (zbz:List D→List Tb→Option Ans) (a0:Nat) (a1:Int) (T0:Tb) (T1:Tb):denS Try.prog (zaA [(ID.bench_Bench_may,(.st [] [0] [(3840,false)] zaw)),(ID.disk_Disk_Flush,(.st [] [0] [(7649,true)] zbz))]) zfT [0] ID.bench_Bench_Flush [.h 3840 a0 0,.int .i64 a1] [T0,T1]=zeB zaw zbz a0 a1 T0 T1:=by kernel_rfl
theorem zjz (a0:Nat) (a1:Int) (T0:Tb) (T1:Tb):zbf [.h 3840 a0 0,.int .i64 a1] [T0,T1]=zeB zaw zbz a0 a1 T0 T1:=zmx zaw zbz a0 a1 T0 T1
def zja:Ann:={ loops:=[(0,[.val (.cell (.hnd (3840:Nat))),.val (.cell .lent),.dead,.dead,.dead,.dead,.dead,.dead,.val (.cell (.int .i64)),.val (.cell (.int .i64))])],ks:=[(3840,false),(7649,true)] }
noncomputable def zbM:List D→List Tb→Option Ans:=denS Try.prog (zaA [(ID.bench_Bench_Len,(.st [] [0] [(3840,false)] zav)),(ID.stripe_up,(.st [] [0] [(3840,false),(7649,false)] za1)),(ID.bench_Bench_Flush,(.st [] [0] [(3840,false),(7649,true)] zbf))]) zja [0] ID.stripe_Flush
theorem znB:za2 Try.prog ID.stripe_Flush (.st [] [0] [(3840,false),(7649,true)] zbM):=za9 (zaC [zec,zhz,zjy]) zbA ⟨Try.f34,by kernel_rfl,by kernel_rfl,by kernel_rfl⟩
noncomputable def zoq:Fact Try.prog:=⟨ID.stripe_Flush,(.st [] [0] [(3840,false),(7649,true)] zbM),znB⟩
noncomputable def zhH (zav:List D→List Tb→Option Ans) (za1:List D→List Tb→Option Ans) (zbf:List D→List Tb→Option Ans) (a0:Nat) (a1:List D) (T0:Tb) (T1:Tb):Option Ans:=
  zat (zav [D.h (3840:Nat) a0 (0:Nat)] [T0]) fun r1=>
  nilK r1.outs <|
  nilK r1.tbs <|
  asI IntKind.i64 r1.r fun i2=>
  zce (α:=(Nat×List D×Int×Int×PUnit)×List (List D)×List (List D)×PUnit) (fun again3 ((x4,(l5,(i6,(i7,_)))),(U8,(U9,_)))=>
    brK (decide (i7 < i6))
      (zat (za1 [D.h (3840) x4 (0:Nat),D.sl Tag.lent l5,D.int IntKind.i64 i7] [U8,U9]) fun r10=>
      nilK r10.outs <|
      nilK r10.tbs <|
      asB r10.r fun b11=>
      brK (!b11)
        (letN (IntKind.wrap IntKind.i64 (i7+(1:Int))) fun n12=>
        again3 (((x4,l5,i6,n12,PUnit.unit),U8,U9,PUnit.unit)))
        (zat (zbf [D.h (3840) x4 (0:Nat),D.int IntKind.i64 i7] [U8,U9]) fun r13=>
        nilK r13.outs <|
        zer r13.tbs fun c14 q15=>
        nilK q15 <|
        asI IntKind.i64 r13.r fun i16=>
        brK (i16 != (0:Int))
          (some (Ans.mk (D.int IntKind.i64 i16) [] [c14]))
          (letN (IntKind.wrap IntKind.i64 (i7+(1:Int))) fun n17=>
          again3 (((x4,l5,i6,n17,PUnit.unit),U8,c14,PUnit.unit)))))
      (some (Ans.mk (D.int IntKind.i64 (0:Int)) [] [U9])))
    (((a0,a1,i2,(0:Int),PUnit.unit),T0,T1,PUnit.unit))
theorem zrs (zav:List D→List Tb→Option Ans) (za1:List D→List Tb→Option Ans) (zbf:List D→List Tb→Option Ans) (tga1:Tag) (a0:Nat) (a1:List D) (T0:Tb) (T1:Tb):denS Try.prog (zaA [(ID.bench_Bench_Len,(.st [] [0] [(3840,false)] zav)),(ID.stripe_up,(.st [] [0] [(3840,false),(7649,false)] za1)),(ID.bench_Bench_Flush,(.st [] [0] [(3840,false),(7649,true)] zbf))]) zja [0] ID.stripe_Flush [.h 3840 a0 0,.sl tga1 a1] [T0,T1]=zhH zav za1 zbf a0 (D.lentL a1) T0 T1:=by kernel_rfl
theorem zor (tga1:Tag) (a0:Nat) (a1:List D) (T0:Tb) (T1:Tb):zbM [.h 3840 a0 0,.sl tga1 a1] [T0,T1]=zhH zav za1 zbf a0 (D.lentL a1) T0 T1:=zrs zav za1 zbf tga1 a0 a1 T0 T1
def zfU:Ann:={ loops:=[],ks:=[(7649,false)] }
noncomputable def zbg:List D→List Tb→Option Ans:=denS Try.prog (zaA []) zfU [0] ID.disk_Disk_Pending
theorem ziX:za2 Try.prog ID.disk_Disk_Pending (.st [] [0] [(7649,false)] zbg):=za9 (zaC []) zbA ⟨Try.f83,by kernel_rfl,by kernel_rfl,by kernel_rfl⟩
noncomputable def zjA:Fact Try.prog:=⟨ID.disk_Disk_Pending,(.st [] [0] [(7649,false)] zbg),ziX⟩
noncomputable def zeC (a0:Nat) (T0:Tb):Option Ans:=
  getK T0 a0 fun d1=>
  getK d1 ((1664:Nat)) fun d2=>
  za4 d2 fun l3=>
  getK T0 a0 fun d4=>
  getK d4 ((1664:Nat)) fun d5=>
  za4 d5 fun l6=>
  sif ((0:Nat)+List.length l3≤List.length l6) <|
  some (Ans.mk (D.int IntKind.i64 (↑(List.length l3):Int)) [] [])
theorem zmy (a0:Nat) (T0:Tb):denS Try.prog (zaA []) zfU [0] ID.disk_Disk_Pending [.h 7649 a0 0] [T0]=zeC a0 T0:=by kernel_rfl
theorem zjB (a0:Nat) (T0:Tb):zbg [.h 7649 a0 0] [T0]=zeC a0 T0:=zmy a0 T0
def ze6:Ann:={ loops:=[(0,[.dead,.dead,.dead,.val (.cell (.int .i64)),.dead,.dead,.dead,.dead,.dead,.view 3840 3,.val (.cell (.int .i64)),.val (.cell (.int .i64))])],ks:=[(3840,false),(7649,false)] }
noncomputable def zaR:List D→List Tb→Option Ans:=denS Try.prog (zaA [(ID.disk_Disk_Pending,(.st [] [0] [(7649,false)] zbg))]) ze6 [0] ID.bench_Bench_Pending
theorem zhI:za2 Try.prog ID.bench_Bench_Pending (.st [] [0] [(3840,false),(7649,false)] zaR):=za9 (zaC [zjA]) zbA ⟨Try.f40,by kernel_rfl,by kernel_rfl,by kernel_rfl⟩
noncomputable def zih:Fact Try.prog:=⟨ID.bench_Bench_Pending,(.st [] [0] [(3840,false),(7649,false)] zaR),zhI⟩
noncomputable def zdR (zbg:List D→List Tb→Option Ans) (a0:Nat) (T0:Tb) (T1:Tb):Option Ans:=
  getK T0 a0 fun d1=>
  getK d1 ((3:Nat)) fun d2=>
  za4 d2 fun l3=>
  getK T0 a0 fun d4=>
  getK d4 ((3:Nat)) fun d5=>
  za4 d5 fun l6=>
  sif ((0:Nat)+List.length l3≤List.length l6) <|
  zce (α:=(Int×(Nat×Nat×Nat)×Int×Int×PUnit)×List (List D)×List (List D)×PUnit) (fun again7 ((i8,((x9,(x10,x11)),(i12,(i13,_)))),(U14,(U15,_)))=>
    brK (decide (i13 < i12))
      (getK U14 x9 fun d16=>
      getK d16 ((3:Nat)) fun d17=>
      za4 d17 fun l18=>
      sif ((0:Int)≤i13) <|
      sif (Int.toNat i13 < x11) <|
      getK U14 x9 fun d19=>
      getK d19 ((3:Nat)) fun d20=>
      za4 d20 fun l21=>
      getK l21 (x10+Int.toNat i13) fun d22=>
      sif (D.isAgg d22=false) <|
      sif (D.width d22=(1:Nat)) <|
      sif (D.cell d22=true) <|
      zat (zbg [d22] [U15]) fun r23=>
      nilK r23.outs <|
      nilK r23.tbs <|
      asI IntKind.i64 r23.r fun i24=>
      letN (IntKind.wrap IntKind.i64 (i8+i24)) fun n25=>
      letN (IntKind.wrap IntKind.i64 (i13+(1:Int))) fun n26=>
      again7 (((n25,(x9,x10,x11),i12,n26,PUnit.unit),U14,U15,PUnit.unit)))
      (some (Ans.mk (D.int IntKind.i64 i8) [] [])))
    ((((0:Int),(a0,(0:Nat),List.length l3),(↑(List.length l3):Int),(0:Int),PUnit.unit),T0,T1,PUnit.unit))
theorem zkB (zbg:List D→List Tb→Option Ans) (a0:Nat) (T0:Tb) (T1:Tb):denS Try.prog (zaA [(ID.disk_Disk_Pending,(.st [] [0] [(7649,false)] zbg))]) ze6 [0] ID.bench_Bench_Pending [.h 3840 a0 0] [T0,T1]=zdR zbg a0 T0 T1:=by kernel_rfl
theorem zii (a0:Nat) (T0:Tb) (T1:Tb):zaR [.h 3840 a0 0] [T0,T1]=zdR zbg a0 T0 T1:=zkB zbg a0 T0 T1
end Wf

namespace Wf
open Go Go.RowKit Go.Proofs
set_option linter.unusedSimpArgs false
set_option linter.unusedVariables false
theorem zvj (c:Int):zaO [.sl .full [.int .i64 1,.int .i64 2,.int .i64 4],.int .i64 c]=some (.bool (c == 1 || c == 2 || c == 4)):=by
  rw [zgm]
  unfold zc3
  rw [zhx]
  unfold zds
  obtain ⟨m,hm⟩:=zzZ
  by_cases h1:c=1<;>by_cases h2:c=2<;>by_cases h4:c=4<;>
    simp [zce,hm,fixN,zb9,h1,h2,h4,zaq]<;>omega
theorem zij (l d c:Int):zas [gD l d c]=some (iD (if zfa l d c then 0 else 1)):=by
  rw [zqC]
  unfold zki
  have hc:=zvj c
  unfold zfa
  obtain ⟨q,hq⟩:∃ q,(c == 1 || c == 2 || c == 4)=q:=⟨_,rfl⟩
  rw [hq] at hc ⊢
  by_cases h5:l=5
  · subst h5
    by_cases h3:d < 3<;>by_cases h8:8 < d<;>cases q<;>simp [zp0,zeK,setD,hc,zb9,h3,h8]<;>omega
  · by_cases h6:l=6
    · subst h6
      by_cases h3:d < 4<;>by_cases h8:8 < d<;>cases q<;>simp [zp0,zeK,setD,hc,zb9,h3,h8]<;>omega
    · simp [zp0,zeK,setD,hc,zb9,h5,h6]
theorem zqR (l d c:Int):zbd [gD l d c]=some (iD (zl6 l d c)):=by
  rw [zo5]
  unfold ziO zl6
  rw [zij]
  cases h:zfa l d c
  · simp [zb9]
  · have:=zjZ.1 h
    simp [zb9]
    exact zaq (by omega) (by omega)
theorem zyl (l d c:Int):zaP [gD l d c]=some (iD (zu0 l d c)):=by
  rw [zqF]
  unfold zkm zu0
  rw [zij,zqR]
  unfold zl6
  cases h:zfa l d c
  · simp [zb9]
  · have:=zjZ.1 h
    simp [zb9]
    exact zaq (by omega) (by omega)
theorem znC (l d c:Int):zaf [gD l d c]=some (.bool (zfa l d c)):=by
  rw [zje]
  unfold zeu zfa
  by_cases h5:l=5
  · subst h5
    by_cases h3:3≤d<;>by_cases h8:d≤8<;>simp [zb9,h3,h8]<;>by_cases h1:c=1<;>by_cases h2:c=2<;>simp [h1,h2]<;>omega
  · by_cases h6:l=6
    · subst h6
      by_cases h3:4≤d<;>by_cases h8:d≤8<;>simp [zb9,h3,h8]<;>by_cases h1:c=1<;>by_cases h2:c=2<;>simp [h1,h2]<;>omega
    · simp [zb9,h5,h6]
theorem zsn (l d c:Int):zaD [gD l d c]=some (iD (zl6 l d c)):=by
  rw [ziC]
  unfold zd5 zl6
  rw [znC]
  cases h:zfa l d c
  · simp [zb9]
  · have:=zjZ.1 h
    simp [zb9]
    exact zaq (by omega) (by omega)
theorem zz4 (l d c:Int):zac [gD l d c]=some (iD (zu0 l d c)):=by
  rw [zjf]
  unfold zev zu0
  rw [znC,zsn]
  unfold zl6
  cases h:zfa l d c
  · simp [zb9]
  · have:=zjZ.1 h
    simp [zb9]
    exact zaq (by omega) (by omega)
theorem zqS (a n:Int) (h:1≤n) (h9:n < 1000000000):zaa [.int .i64 a,.int .i64 n]=some (iD (a % n)):=by
  rw [zjd]
  unfold zet
  have hm:=zyc a n h
  have hlt:=Int.lt_tmod_of_pos a (show 0 < n by omega)
  have h1:¬ n < 1:=by omega
  have h0:n≠0:=by omega
  rcases hm with ⟨k1,k2⟩ | ⟨k1,k2⟩
  · simp [zb9,h1,h0,Int.not_lt.2 k1,k2]
  · simp [zb9,h1,h0,k1,k2]
    exact zaq (by omega) (by omega)
theorem zz5 (n:Int):zbt [.int .i64 n]=some (zu1 n).D:=by
  rw [zlb]
  unfold zfn
  have w5:IntKind.i64.wrap (5+n % 2)=5+n % 2:=zaq (by omega) (by omega)
  have w3:IntKind.i64.wrap (3+qn n 6 % 4)=3+qn n 6 % 4:=zaq (by omega) (by omega)
  have w4:IntKind.i64.wrap (4+qn n 6 % 4)=4+qn n 6 % 4:=zaq (by omega) (by omega)
  have w12:IntKind.i64.wrap (n % 12 - 1)=n % 12 - 1:=zaq (by omega) (by omega)
  have w9:IntKind.i64.wrap (n % 9 - 1)=n % 9 - 1:=zaq (by omega) (by omega)
  have h0:0≤qn n 2 % 3:=by omega
  have h3:qn n 2 % 3 < 3:=by omega
  have e2:IntKind.i64.wrap (n.tdiv 2)=qn n 2:=rfl
  have e6:IntKind.i64.wrap (n.tdiv 6)=qn n 6:=rfl
  have e24:IntKind.i64.wrap (n.tdiv 24)=qn n 24:=rfl
  simp only [zqS _ _ (show (1:Int)≤2 by decide) (show (2:Int) < 1000000000 by decide),zqS _ _ (show (1:Int)≤3 by decide) (show (3:Int) < 1000000000 by decide),zqS _ _ (show (1:Int)≤4 by decide) (show (4:Int) < 1000000000 by decide),
    zqS _ _ (show (1:Int)≤9 by decide) (show (9:Int) < 1000000000 by decide),zqS _ _ (show (1:Int)≤12 by decide) (show (12:Int) < 1000000000 by decide),zqS _ _ (show (1:Int)≤40 by decide) (show (40:Int) < 1000000000 by decide),
    zah,iD,zbH,zaQ,w5,w3,w4,w12,w9,e2,e6,e24,zab h0,zBs _ h0 h3]
  unfold Geo.D zu1
  have hl:n % 2=0∨n % 2=1:=by omega
  by_cases k1:qn n 24 % 40=36<;>by_cases k2:qn n 24 % 40=37<;>by_cases k3:qn n 24 % 40=38<;>by_cases k4:qn n 24 % 40=39<;>rcases hl with hl | hl<;>
    simp [zb9,k1,k2,k3,k4,hl]<;>omega
theorem zz6 (n:Int):zbu [.int .i64 n]=some (zu2 n).D:=by
  rw [zld]
  unfold zfo
  rw [zz5]
  unfold zu2
  obtain ⟨l,d,c⟩:=zu1 n
  simp only [zah,Geo.D,zmX,zuQ,zhj,znC,zcY,Geo.ok]
  by_cases h:zfa l d c=true
  · simp [zb9,h]
  · simp only [Bool.not_eq_true] at h; simp [zb9,h]
theorem zvk (g:Geo):zaP [gD g.l g.d g.c]=some (iD g.width):=zyl ..
theorem zso (g:Geo):zac [gD g.l g.d g.c]=some (iD g.width):=zz4 ..
section
variable (a b c x y z k:Int)
end
section
variable (g:Geo) (a row k:Int)
theorem zxt:zbQ [g.D,.int .i64 row]=some (.bool (zcB g row)):=by
  unfold Geo.D
  rw [zts]
  unfold zoa
  rw [zij]
  unfold zcB Geo.ok
  cases zfa g.l g.d g.c<;>simp [zb9]<;>(by_cases h:0≤row<;>simp [h])
theorem ztJ:zar [g.D,.int .i64 row]=some (.bool (zcB g row)):=by
  unfold Geo.D
  rw [zj2]
  unfold zeT
  rw [znC]
  unfold zcB Geo.ok
  cases zfa g.l g.d g.c<;>simp [zb9]<;>(by_cases h:0≤row<;>simp [h])
theorem zvl:zaJ [g.D,.int .i64 row]=some (.tup [iD (parP g row).1,iD (parP g row).2]):=by
  have hi:=zxt g row
  unfold Geo.D at*
  rw [zob]
  unfold zhA
  rw [hi]
  unfold parP
  cases h:zcB g row
  · simp [zb9]
  · obtain ⟨hk,h0,h1⟩:=zbW.1 h
    have hd:=ok_d hk
    have hv:=zEO hk h0
    have hp:=zlH hk row
    have w1:IntKind.i64.wrap (g.d - 1)=g.d - 1:=zaq (by omega) (by omega)
    have w2:IntKind.i64.wrap (row.tdiv g.c)=row / g.c:=by rw [zCq hk h0]; exact zaq (by omega) (by omega)
    have w3:IntKind.i64.wrap (g.d - 1 - (row / g.c).tmod g.d)=parA g row:=by rw [zse hv.1]; exact zaq (by unfold parA at hp; omega) (by unfold parA at hp; omega)
    have w4:IntKind.i64.wrap (parA g row+1)=parA g row+1:=zaq (by omega) (by omega)
    have t4:(parA g row+1).tmod g.d=(parA g row+1) % g.d:=zse (by omega)
    by_cases h5:g.l=5
    · simp [zb9,show g.c≠0 by omega,show g.d≠0 by omega,w1,w2,w3,h5]
    · simp [zb9,show g.c≠0 by omega,show g.d≠0 by omega,w1,w2,w3,h5,w4,t4]
theorem zz7:zaz [g.D,.int .i64 row]=some (.tup [iD (parP g row).1,iD (parP g row).2]):=by
  have hi:=ztJ g row
  unfold Geo.D at*
  rw [ziG]
  unfold zd7
  rw [hi]
  unfold parP
  cases h:zcB g row
  · simp [zb9]
  · obtain ⟨hk,h0,h1⟩:=zbW.1 h
    have hd:=ok_d hk
    have hv:=zEO hk h0
    have hp:=zlH hk row
    have w1:IntKind.i64.wrap (g.d - 1)=g.d - 1:=zaq (by omega) (by omega)
    have w2:IntKind.i64.wrap (row.tdiv g.c)=row / g.c:=by rw [zCq hk h0]; exact zaq (by omega) (by omega)
    have w3:IntKind.i64.wrap (g.d - 1 - (row / g.c).tmod g.d)=parA g row:=by rw [zse hv.1]; exact zaq (by unfold parA at hp; omega) (by unfold parA at hp; omega)
    have w4:IntKind.i64.wrap (parA g row+1)=parA g row+1:=zaq (by omega) (by omega)
    have t4:(parA g row+1).tmod g.d=(parA g row+1) % g.d:=zse (by omega)
    by_cases h5:g.l=5
    · simp [zb9,show g.c≠0 by omega,show g.d≠0 by omega,w1,w2,w3,h5]
    · simp [zb9,show g.c≠0 by omega,show g.d≠0 by omega,w1,w2,w3,h5,w4,t4]
theorem zym:zbi [g.D,.int .i64 row,.int .i64 k]=some (iD (zdy g row k)):=by
  have hi:=zxt g row
  have hp:=zvl g row
  unfold Geo.D at*
  rw [zqG]
  unfold zko
  rw [hi,hp,zvk,zqR]
  unfold zdy
  cases h:zcB g row
  · simp [zb9]
  · obtain ⟨hk,h0,h1⟩:=zbW.1 h
    have hd:=ok_d hk
    have hw:=zd1 hk
    have hb:=zu3 hk
    have hl:=zhl.1 hk
    have hpa:=zlH hk row
    by_cases k0:k < 0
    · simp [zb9,k0,show ¬ 0≤k by omega]
    · by_cases k1:g.width≤k
      · simp [zb9,k0,k1,show ¬ k < g.width by omega]
      · have w1:IntKind.i64.wrap (parA g row+(g.l - 4))=parA g row+(g.l - 4):=zaq (by omega) (by omega)
        have w2:IntKind.i64.wrap (parA g row+(g.l - 4)+k)=parA g row+(g.l - 4)+k:=zaq (by omega) (by omega)
        have t2:(parA g row+(g.l - 4)+k).tmod g.d=(parA g row+(g.l - 4)+k) % g.d:=zse (by omega)
        have hp1:(parP g row).1=parA g row:=by unfold parP; simp [h]
        simp [zb9,k0,k1,show 0≤k by omega,show k < g.width by omega,hb,hp1,w1,w2,t2,show g.d≠0 by omega]
theorem zBI:zbb [g.D,.int .i64 row,.int .i64 k]=some (iD (zdy g row k)):=by
  have hi:=ztJ g row
  have hp:=zz7 g row
  unfold Geo.D at*
  rw [zj4]
  unfold zeV
  rw [hi,hp,zso,zsn]
  unfold zdy
  cases h:zcB g row
  · simp [zb9]
  · obtain ⟨hk,h0,h1⟩:=zbW.1 h
    have hd:=ok_d hk
    have hw:=zd1 hk
    have hb:=zu3 hk
    have hl:=zhl.1 hk
    have hpa:=zlH hk row
    by_cases k0:k < 0
    · simp [zb9,k0,show ¬ 0≤k by omega]
    · by_cases k1:g.width≤k
      · simp [zb9,k0,k1,show ¬ k < g.width by omega]
      · have w1:IntKind.i64.wrap (parA g row+(g.l - 4))=parA g row+(g.l - 4):=zaq (by omega) (by omega)
        have w2:IntKind.i64.wrap (parA g row+(g.l - 4)+k)=parA g row+(g.l - 4)+k:=zaq (by omega) (by omega)
        have t2:(parA g row+(g.l - 4)+k).tmod g.d=(parA g row+(g.l - 4)+k) % g.d:=zse (by omega)
        have hp1:(parP g row).1=parA g row:=by unfold parP; simp [h]
        simp [zb9,k0,k1,show 0≤k by omega,show k < g.width by omega,hb,hp1,w1,w2,t2,show g.d≠0 by omega]
end
section
variable (l d c a row k:Int)
end
section
variable (g:Geo) (row k:Int)
end
section
variable (l d c row k:Int)
end
end Wf

namespace Wf
open Go Go.RowKit Go.Proofs
set_option linter.unusedSimpArgs false
set_option linter.unusedVariables false
theorem zkC (a n:Int) (h:1≤n) (h9:n < 1000000000):zaa [.int .i64 a,.int .i64 n]=some (.int .i64 (a % n)):=zqS a n h h9
theorem zqT (t t':Tag) (l m:List Int) (hl:l.length < 1000000000):zax [.sl t (uL l),.sl t' (uL m)]=some (.bool (decide (l=m))):=by
  rw [zhE,zcO,zcO]
  unfold zdt
  by_cases hlen:l.length=m.length
  · simp only [zdw,hlen,bne_self_eq_false,zay]
    refine zkU (fun a=>(m.length:Int).toNat - a.1.2.2.1.toNat) (fun _=>some (D.bool (decide (l=m))))
      (fun a=>∃ k:Nat,k≤m.length∧l.take k=m.take k∧a=((uL l,uL m,(k:Int),PUnit.unit),PUnit.unit)) ?_ ⟨0,by omega,by simp,rfl⟩ (by simp; omega)
    rintro again _ ⟨k,hk,he,rfl⟩ hag
    dsimp only
    rw [zdw,hlen]
    by_cases hkm:k < m.length
    · have h1:l[k]? =some l[k]:=List.getElem?_eq_getElem (by omega)
      have h2:m[k]? =some m[k]:=List.getElem?_eq_getElem hkm
      have hd:decide ((k:Int) < (m.length:Int))=true:=by simp; omega
      rw [hd,za8,zab (by omega),zai (by simpa using zi3 h1),zbH,zab (by omega),zai (by simpa using zi3 h2),zbH]
      by_cases hx:l[k]=m[k]
      · have hb:(l[k] != m[k])=false:=by simp [hx]
        rw [hb,zay,zaQ,zaq (by omega) (by omega)]
        exact hag _ ⟨k+1,by omega,by rw [List.take_add_one,List.take_add_one,he,h1,h2,hx],rfl⟩ (by simp; omega)
      · have hb:(l[k] != m[k])=true:=by simp [hx]
        rw [hb,za8]
        congr 2
        symm
        simp
        intro e
        subst e
        exact hx rfl
    · have hd:decide ((k:Int) < (m.length:Int))=false:=by simp; omega
      rw [hd,zay]
      have:l=m:=by
        have e1:l.take k=l:=List.take_of_length_le (by omega)
        have e2:m.take k=m:=List.take_of_length_le (by omega)
        rw [←e1,←e2,he]
      simp [this]
  · have hb:((l.length:Int) != (m.length:Int))=true:=by simp; omega
    simp only [zdw,hb,za8]
    congr 2
    symm
    simp
    intro e; subst e; exact hlen rfl
theorem zdq {R:Type} (a:Int) {b:List Int} (h:b.length=32) (f:LfT [.int .i64,.arr 32]→Option R):zaB [.int .i64,.arr 32] (.int .i64 a::uL b) f=f (a,uL b,()):=by
  have e1:(uL b).take 32=uL b:=List.take_of_length_le (by simp [h])
  have e2:(uL b).drop 32=[]:=List.drop_of_length_le (by simp [h])
  simp [zaB,zdm,Lf.get,h,e1,e2]
theorem zos {R:Type} {b:List Int} (h:b.length=32) (f:LfT [.arr 32]→Option R):zaB [.arr 32] (uL b) f=f (uL b,()):=by
  have e1:(uL b).take 32=uL b:=List.take_of_length_le (by simp [h])
  have e2:(uL b).drop 32=[]:=List.drop_of_length_le (by simp [h])
  simp [zaB,zdm,Lf.get,h,e1,e2]
theorem zEP {T:Tb} {i:Nat} {s:DS} (h:T[i]? =some s.cells) (hs:s.Ok) (a:Int):zaU [.h kD i 0,.int .i64 a] [T]=some (Ans.mk (.int .i64 (s.may a)) [] []):=by
  rw [znf]
  unfold zgQ DS.may
  rw [zai h,zai (zm5 hs.len),zcY]
  cases hf:s.failed
  · by_cases h0:a < 0
    · simp [zb9,h0]
    · by_cases h1:52≤a
      · simp [zb9,h0,h1]
      · simp [zb9,h0,h1]
  · simp [zb9]
theorem zBJ {T:Tb} {i:Nat} {s:DS} (h:T[i]? =some s.cells) (hs:s.Ok):zbm [.h kD i 0] [T]=some (Ans.mk (.bool s.failed) [] []):=by
  rw [zke]
  unfold ze0
  rw [zai h,zai (zm5 hs.len),zcY]
theorem zqU {b:List Int} (h:b.length≤4294967296) (tg:Tag):zam [.sl tg (uL b)]=some (.sl .own (uL b)):=by
  cases b with
  | nil=>exact zgo tg
  | cons n b=>
    show zam [.sl tg (.int .u8 n::uL b)]=some (.sl .own (.int .u8 n::uL b))
    rw [zgV,zcO]
    unfold zc9
    have h1:(D.lent (.int .u8 n)::uL b)=uL (n::b):=by simp [uL]
    rw [h1]
    simp only [zdw,zBn,zgH,zab,h]
    simp [uL]
theorem zCs (w:Int×List Int):(wD w).free=true:=by
  simp only [wD,D.free,D.freeL,zth,Bool.and_self]
theorem zCt (w:Int×List Int):(wD w).lent=wD w:=by
  simp only [wD,D.lent,D.lentL,zcO]
theorem zz8 (p:List (Int×List Int)):D.lentL (p.map wD)=p.map wD:=by
  induction p with
  | nil=>rfl
  | cons w p ih=>simp [ih,zCt]
theorem zDA {p:List (Int×List Int)} (h:∀ w∈p,Sec w.2):zd3 33 (p.map wD)=true:=by
  simp only [zd3,List.all_map,List.all_eq_true]
  intro w hw
  have:=(h w hw).len
  simp [wD,D.width,D.isAgg,D.cell,this]
theorem zz9 {p:List (Int×List Int)} (hp:∀ w∈p,Sec w.2) (h:p.length≤4294967296) (tg:Tag):zad [.sl tg (p.map wD)]=some (.sl .own (p.map wD)):=by
  cases p with
  | nil=>exact zdA tg
  | cons w p=>
    have hok:=zDA hp
    rw [List.map_cons] at hok ⊢
    rw [zdM,zz8,zCt]
    unfold zb2
    have hf:(wD w::p.map wD).all D.free=true:=by
      rw [←List.map_cons (f:=wD),List.all_map,List.all_eq_true]; intro w _; exact zCs w
    have hl:(wD w::p.map wD).length≤4294967296:=by simpa using h
    simp only [zab,hl,hok,hf]
theorem zAa {p:List (Int×List Int)} {k:Nat} {w:Int×List Int} (h:p[k]? =some w):(p.map wD)[k]? =some (.agg (.int .i64 w.1::uL w.2)):=by simp [h,wD]
theorem zqV (l:List D):D.width (.agg l)=l.length:=rfl
theorem zEQ {T:Tb} {i:Nat} {s:DS} (h:T[i]? =some s.cells) (hs:s.Ok) (hn:s.pend.length≤1000000) (a:Int):
    zbE [.h kD i 0,.int .i64 a] [T]=some (Ans.mk (.tup [.sl .own (uL (s.read a).1),.int .i64 (s.read a).2]) [] []):=by
  rw [zmn]
  unfold zfY DS.read
  rw [zEP h hs a,zah,zel,zel,zbH]
  by_cases hm:s.may a=0
  · rw [hm]
    have hb:((0:Int) != 0)=false:=rfl
    rw [hb,zay,if_neg (by simp)]
    have ha:0≤a∧a < 52:=by
      unfold DS.may at hm
      split at hm
      · omega
      · split at hm<;>omega
    have hp:=zl5 (s:=s) hs.len
    have hbase:=zwb (s:=s) hs.len (a:=a.toNat) (by omega)
    have hsec:=zBo hs (a:=a.toNat) (by omega)
    rw [zab ha.1,zab (by omega),zai h,zab (by rw [zi4 hs.len]; omega),Nat.zero_add,hbase]
    rw [zab (ztg _),zab (by simp [hsec.len]),zab (by simp [hsec.len]),zai h,zai hp,zbU,zai h,zai hp,zbU,zab (by simp)]
    rw [zos hsec.len,List.length_map]
    refine zcy (R:=Ans) (α:=(Int×(List D×PUnit)×(Nat×Nat×Nat)×Int×Int×PUnit)×List (List D)×PUnit)
      (fun k=>((a,(uL (look (s.pend.take k) a (s.base a.toNat)),PUnit.unit),(i,0,s.pend.length),(s.pend.length:Int),(k:Int),PUnit.unit),T,PUnit.unit)) s.pend.length (by omega) ?_ ?_
    · intro again k hk
      dsimp only
      obtain ⟨w,hw⟩:∃ w,s.pend[k]? =some w:=⟨_,List.getElem?_eq_getElem hk⟩
      have hws:=hs.ps w (List.mem_of_getElem? hw)
      have hd:decide ((k:Int) < (s.pend.length:Int))=true:=by simp; omega
      have hlk:(look (s.pend.take k) a (s.base a.toNat)).length=32:=zxl (fun w hw=>(hs.ps w (List.mem_of_mem_take hw)).len) hsec.len
      rw [hd,za8,zai h,zai hp,zbU,zab (by omega),zab (by simpa using hk),zai h,zai hp,zbU,zai (by simpa using zAa hw),zmX,zdq _ hws.len]
      dsimp only
      simp only [List.append_nil,List.cons_append,List.nil_append,zqV,List.length_cons,zdw,hws.len,hlk,zab]
      by_cases hwa:w.1=a
      · have hb:(w.1 == a)=true:=by simp [hwa]
        rw [hb,za8,List.drop_succ_cons,List.drop_zero]
        have et:(uL w.2).take 32=uL w.2:=List.take_of_length_le (by simp [hws.len])
        rw [et,zab (by omega),zab (by simp [hws.len]),zab (by simp [hws.len]),zab (by omega),zaQ,zaq (by omega) (by omega),zCc (by simp [hws.len])]
        have e3:(uL (look (s.pend.take k) a (s.base a.toNat))).take 0++uL w.2++(uL (look (s.pend.take k) a (s.base a.toNat))).drop (0+32)=uL w.2:=by
          rw [List.drop_of_length_le (by simp [hlk])]; simp
        rw [e3,zos hws.len,zuV hw,if_pos hwa]
        rfl
      · have hb:(w.1 == a)=false:=by simp [hwa]
        rw [hb,zay,zaQ,zaq (by omega) (by omega),zos hlk,zuV hw,if_neg hwa]
        rfl
    · intro again
      have hlk:=zxl (p:=s.pend) (a:=a) (fun w hw=>(hs.ps w hw).len) hsec.len
      have hd:decide ((s.pend.length:Int) < (s.pend.length:Int))=false:=by simp
      dsimp only
      rw [hd,zay,List.take_length]
      simp only [List.append_nil,zdw,hlk,Nat.le_refl,zab]
      have ec:cut 0 32 (uL (look s.pend a (s.base a.toNat)))=uL (look s.pend a (s.base a.toNat)):=by
        have:=zc7 (uL (look s.pend a (s.base a.toNat)))
        rw [zdw,hlk] at this; exact this
      rw [ec,zqU (by rw [hlk]; omega),zah,zbU]
      simp
      rfl
  · have hb:(s.may a != 0)=true:=by simp [hm]
    rw [hb,za8,if_pos hm]
    rfl
theorem zDB {T:Tb} {i:Nat} {s:DS} (h:T[i]? =some s.cells) (hs:s.Ok) (a:Int) (tg:Tag) (b:List Int):
    zaV [.h kD i 0,.int .i64 a,.sl tg (uL b)] [T]=some (Ans.mk (.tup [wD (putR s a b).1,.int .i64 (putR s a b).2]) [] []):=by
  rw [zng,zcO]
  unfold zgR putR
  rw [zEP h hs a,zah,zel,zel,zbH]
  by_cases hm:s.may a=0
  · rw [hm]
    have hb:((0:Int) != 0)=false:=rfl
    rw [hb,zay,if_neg (by simp)]
    by_cases hl:b.length=32
    · have hb2:(((uL b).length:Int) != 32)=false:=by simp [hl]
      rw [hb2,zay,if_neg (by simp [hl]),zab (zxk _),zab (by simp [hl])]
      have et:(D.int .i64 a::uL b).take 33=.int .i64 a::uL b:=List.take_of_length_le (by simp [hl])
      simp only [List.append_nil,List.cons_append,List.nil_append,List.length_cons,zdw,hl,List.drop_zero,et]
      rw [zab (by omega),zdq _ hl]
      dsimp only
      simp only [zdw,hl,Nat.le_refl,zab,List.take_of_length_le,et]
      rw [zdq _ hl]
      dsimp only
      rw [zab (by simp only [D.free,D.freeL,zth,Bool.and_self])]
      rfl
    · have hb2:(((uL b).length:Int) != 32)=true:=by simp; omega
      rw [hb2,za8,if_pos hl]
      rfl
  · have hb:(s.may a != 0)=true:=by simp [hm]
    rw [hb,za8,if_pos hm]
    rfl
theorem zDC (w:Int×List Int) (hw:Sec w.2) (c:Int):zaF [wD w,.at_ (.int .i64 c)]=some (.bool (w.1 == c)):=by
  unfold wD
  rw [ziI]
  unfold zd8
  rw [show D.lentL (.int .i64 w.1::uL w.2)=.int .i64 w.1::uL w.2 by simp [zcO],zdq _ hw.len]
theorem zwt {p:List (Int×List Int)} (hp:∀ w∈p,Sec w.2) {c:Int} (hc:∀ w∈p,w.1≠c) (hn:p.length≤1000000) (tg:Tag):
    zao [.sl tg (p.map wD),.fn ID.disk_Disk_Damage_1 [] [.at_ (.int .i64 c)]]=some (.int .i64 (-1)):=by
  rw [zcI,zz8]
  unfold zbB
  rw [List.length_map]
  refine zcy (R:=D) (α:=(List D×Int×Int×Int×PUnit)×PUnit) (fun k=>((p.map wD,c,(p.length:Int),(k:Int),PUnit.unit),PUnit.unit)) p.length (by omega) ?_ ?_
  · intro again k hk
    dsimp only
    obtain ⟨w,hw⟩:∃ w,p[k]? =some w:=⟨_,List.getElem?_eq_getElem hk⟩
    have hws:=hp w (List.mem_of_getElem? hw)
    have hd:decide ((k:Int) < (p.length:Int))=true:=by simp; omega
    rw [hd,za8,zab (by omega),zai (by simpa using zAa hw),zmX,zdq _ hws.len]
    dsimp only
    simp only [List.append_nil,List.cons_append,List.nil_append,zqV,List.length_cons,zdw,hws.len,zab]
    rw [zdq _ hws.len]
    dsimp only
    rw [zdw,hws.len,zab (by omega)]
    have:=zDC w hws c
    unfold wD at this
    rw [this,zah,zcY]
    have hb:(w.1 == c)=false:=by simp [hc w (List.mem_of_getElem? hw)]
    rw [hb,zay,zaQ,zaq (by omega) (by omega)]
    rfl
  · intro again
    have hd:decide ((p.length:Int) < (p.length:Int))=false:=by simp
    dsimp only
    rw [hd,zay]
theorem zvm {p:List (Int×List Int)} (hp:∀ w∈p,Sec w.2) {c:Int} (hc:∀ w∈p,w.1≠c) (hn:p.length≤1000000):
    zaj [.sl .own (p.map wD),.fn ID.disk_Disk_Damage_1 [] [.at_ (.int .i64 c)]] []=some (Ans.mk (.sl .own (p.map wD)) [] []):=by
  rw [zcG]
  unfold zbr
  rw [zab (by omega),zc7,zwt hp hc hn,zah,zbH]
  have hb:((-1:Int) == -1)=true:=rfl
  have hf:(p.map wD).all D.free=true:=by rw [List.all_map,List.all_eq_true]; intro w _; exact zCs w
  rw [hb,za8,zab (by rfl),zab hf]
theorem znD (p:List (Int×List Int)):zc6 (p.map wD)=true:=by
  simp only [zc6,List.all_map,List.all_eq_true]
  intro w _
  simp [wD,D.flatEl,D.flat,uL]
theorem ztK {p:List (Int×List Int)} (h:∀ w∈p,Sec w.2):zfH 33 (p.map wD)=true:=by
  simp only [zfH,List.all_map,List.all_eq_true]
  intro w hw
  have:=(h w hw).len
  simp [wD,D.width,this]
theorem zBK {T:Tb} {i:Nat} {s:DS} (h:T[i]? =some s.cells) (hs:s.Ok) (hn:s.pend.length≤1000000) {a:Int} (hc:∀ w∈s.pend,w.1≠a) (tg:Tag) (b:List Int):
    zbl [.h kD i 0,.int .i64 a,.sl tg (uL b)] [T]=some (Ans.mk (.int .i64 (s.damage a b).1) [] [T.set i (s.damage a b).2.cells]):=by
  rw [zj9,zcO]
  unfold zeY DS.damage
  have hpl:=zxm s a b
  rw [zDB h hs,zah,zel,zel,zmY,zeG,zeG,zhj]
  dsimp only
  unfold wD
  rw [zmX,zdq _ hpl,zbH]
  dsimp only
  rw [zab (by simp [hpl])]
  by_cases he:(putR s a b).2=0
  · obtain ⟨h1,h2,h3,h4,h5⟩:=zti he
    have hb:((putR s a b).2 != 0)=false:=by simp [he]
    rw [hb,zay,if_pos he,h3]
    try rw [he]
    dsimp only
    have et:(uL b).take 32=uL b:=List.take_of_length_le (by simp [h2])
    simp only [List.append_nil,List.cons_append,List.nil_append,List.length_cons,zdw,h2,List.drop_succ_cons,List.drop_zero,et,ztg,Nat.zero_add]
    have hlen:=hs.len
    have hset:zaW T i (a.toNat*32) (uL b)=T.set i (s.setSec a.toNat b).cells:=by
      rw [zdJ h,zdw,h2,zCn hlen (by omega)]
    have hlen2:=zsa (s:=s) hlen (a:=a.toNat) (by omega) h2
    have hU:=zkT h (s.setSec a.toNat b).cells
    have hp:=zl5 hlen2
    have hpe:(s.setSec a.toNat b).pend=s.pend:=rfl
    rw [zab (by first | trivial | omega),zab (by first | trivial | omega),zab h4,zab (by first | trivial | omega),zai h,zab (by rw [zi4 hlen]; omega),zab (by first | trivial | omega),zab (by first | trivial | rfl)]
    rw [zwb hlen (by first | trivial | omega),zab (ztg _),zqi,hset,zai hU,zai hp,zbU,zai hU,zai hp,zbU,zab (by first | trivial | omega),zc7,hpe]
    rw [zz9 hs.ps (by first | trivial | omega),zah,zbU,zab (by first | trivial | rfl),zab (znD _),zvm hs.ps hc hn,zah,zel,zel,zbU,zab (by first | trivial | omega),zai hU,zab (by rw [zi4 hlen2]; omega),
      zab (by first | trivial | rfl),zab (znD _),zab (ztK hs.ps),zqi]
    have h6:zaW (T.set i (s.setSec a.toNat b).cells) i 1664 [.sl .own (s.pend.map wD)]=T.set i (s.setSec a.toNat b).cells:=by
      rw [zdJ hU]
      have:=znW (s:=s.setSec a.toNat b) hlen2 s.pend
      rw [show (1664:Nat)+[D.sl .own (s.pend.map wD)].length=1665 from rfl,this,List.set_set]
      rfl
    rw [h6,show s.mayW a b=0 from he]
  · have hb:((putR s a b).2 != 0)=true:=by simp [he]
    rw [hb,za8,if_neg he]
    have:T.set i s.cells=T:=by
      apply List.ext_getElem?
      intro j
      rw [List.getElem?_set]
      split
      · rename_i e; subst e; rw [h]; simp [zaT h]
      · rfl
    rw [this]
theorem zBL (T:Tb):zn3 T=some (Ans.mk (.h kD T.length 0) [] [T++[List.replicate 1664 (D.int .u8 0)++[.sl .own [],.bool false]]]):=by kernel_rfl
theorem zFE (T:Tb):zcT [] [T]=some (Ans.mk (.h kD T.length 0) [] [T++[DS.new.cells]]):=by
  rw [ztp]
  have e:DS.new.cells=List.replicate 1664 (D.int .u8 0)++[.sl .own [],.bool false]:=by
    show uL (List.replicate 1664 0)++[.sl .own [],.bool false]=_
    rw [←zoO]
  rw [e]
  exact zBL T
theorem zwu {R:Type} {n:Nat} {b:List Int} (h:b.length=n) (f:LfT [.arr n]→Option R):zaB [.arr n] (uL b) f=f (uL b,()):=by
  subst h
  have e1:(uL b).take b.length=uL b:=List.take_of_length_le (by simp)
  have e2:(uL b).drop b.length=[]:=List.drop_of_length_le (by simp)
  simp [zaB,zdm,Lf.get,e1,e2]
theorem zsp {n:Nat} {b:List Int} (h:b.length=n):(uL b).take n=uL b:=List.take_of_length_le (by simp [h])
theorem zBM {a:Int} {b:List Int} (h:b.length=32):zd3 33 [D.agg (D.int .i64 a::uL b)]=true:=by simp [zd3,D.width,D.isAgg,D.cell,h]
theorem zAb {a:Int} {b:List Int} (h:b.length=32):zfH 33 [D.agg (D.int .i64 a::uL b)]=true:=by simp [zfH,D.width,h]
theorem zyn (a:Int) (b:List Int):zc6 [D.agg (D.int .i64 a::uL b)]=true:=by
  have h:(uL b).all D.flat=true:=zDs b
  show ((D.agg (D.int .i64 a::uL b)).flatEl && true)=true
  show ((true && (uL b).all D.flat) && true)=true
  rw [h]; rfl
section
variable {T:Tb} {i:Nat} {s:DS}
theorem zBN (h:T[i]? =some s.cells) (hl:s.l.length=1664) (p:List (Int×List Int)) (l:List D) (e:l=p.map wD):zaW (setT T i 1664 .undef) i 1664 [.sl .own l]=T.set i ({ s with pend:=p }:DS).cells:=by
  subst e
  rw [zs9 h (by rw [zi4 hl]; omega),znW hl]
theorem zvn (h:T[i]? =some s.cells) (hl:s.l.length=1664) (p:List (Int×List Int)):zaW T i 1664 [.sl .own (p.map wD)]=T.set i ({ s with pend:=p }:DS).cells:=by
  rw [zdJ h]
  exact congrArg _ (znW hl p)
theorem ztL (h:T[i]? =some s.cells) (hs:s.Ok) (hn:s.pend.length≤1000000) (a:Int) (tg:Tag) (b:List Int):
    zbk [.h kD i 0,.int .i64 a,.sl tg (uL b)] [T]=some (Ans.mk (.int .i64 (s.write a b).1) [] [T.set i (s.write a b).2.cells]):=by
  rw [zly,zcO]
  unfold zfx DS.write
  have hpl:=zxm s a b
  by_cases he:(putR s a b).2=0
  · obtain ⟨h1,h2,h3,h4,h5⟩:=zti he
    simp (disch:=first | omega | assumption | (simp; done) | fail) [zDB h hs,wD,zdq _ hpl,he,h3,zai h,zai (zl5 hs.len),hpl,h2,zwu h2,zsp h2,zBM h2,zAb h2,zzC h,zi4 hs.len,znD,zyn,ztK hs.ps]
    exact zBN h hs.len (s.pend++[(a,b)]) _ (by simp [wD])
  · simp (disch:=first | omega | assumption | (simp; done) | fail) [zDB h hs,wD,zdq _ hpl,he,hpl,set_same h]
theorem ztM {β:Type} {l:List β} {n:Nat} (h:l.length=n):cut 0 n l=l:=by subst h; exact zc7 l
theorem zER (l:List Int):(uL l).map D.hide=uL l:=by
  unfold uL; rw [List.map_map]; apply List.map_congr_left; intro n _; rfl
theorem zCu (l:List Int):(uL l).map D.own0=uL l:=by
  unfold uL; rw [List.map_map]; apply List.map_congr_left; intro n _; rfl
theorem zwv (h:T[i]? =some s.cells) (hs:s.Ok) (hn:s.pend.length≤1000000):zby [.h kD i 0] [T]=some (Ans.mk (.h kD T.length 0) [] [T++[s.cells]]):=by
  rw [zlw]
  unfold zfw
  have e1:List.map D.hide (List.take 1666 (List.drop 0 s.cells))=uL s.l++[D.undef,D.bool s.failed]:=by
    rw [List.drop_zero,List.take_of_length_le (by rw [zi4 hs.len]; omega)]
    unfold DS.cells
    rw [List.map_append,zER]; rfl
  have e2:∀ (x:List D),x.length=1666→spl 0 1666 x (uL s.l++[D.undef,D.bool s.failed])=uL s.l++[D.undef,D.bool s.failed]:=by
    intro x hx; unfold spl; rw [if_pos ⟨rfl,hx.symm⟩]
  have e3:((uL s.l++[D.undef,D.bool s.failed]).set 1664 .nilp).all D.own0ok=true:=by
    rw [List.set_append_right _ _ (by simp [hs.len]),List.all_append,zoN (fun _=>rfl)]
    simp [hs.len,D.own0ok,D.flat]
  have e4:((uL s.l++[D.undef,D.bool s.failed]).map D.own0).set 1664 (.sl .own (s.pend.map wD))=s.cells:=by
    rw [List.map_append,zCu,List.set_append_right _ _ (by simp [hs.len])]
    simp [hs.len,DS.cells,D.own0]
  have e5:(uL s.l++[D.undef,D.bool s.failed]).length=1666:=by simp [hs.len]
  have e6:(List.reverse ([D.bool false,D.sl Tag.nil []]++List.replicate 1664 (D.int IntKind.u8 (0:Int)))).length=1666:=by rw [List.length_reverse,List.length_append,List.length_replicate]; rfl
  have e7:((true && decide ((1:Nat)=(1:Nat)) && List.all [(1664:Nat)] fun k=>decide (k < 1666))=true):=by decide
  rw [zai h,e1,e2 _ e6]
  generalize (uL s.l++[D.undef,D.bool s.failed])=X at*
  simp (disch:=first | omega | assumption | (simp; done) | fail) [e3,e4,e5,e7,ztM,zai h,zai (zl5 hs.len),zi4 hs.len,zz9 hs.ps,znD,ztK hs.ps]
theorem zDD (h:T[i]? =some s.cells) (hs:s.Ok) (hn:s.pend.length≤1000000):zbz [.h kD i 0] [T]=some (Ans.mk (.int .i64 s.flush.1) [] [T.set i s.flush.2.cells]):=by
  rw [zlA]
  unfold zfy DS.flush
  cases hf:s.failed
  · have hlp:(s.pend.map wD).length=s.pend.length:=by simp
    simp (disch:=first | omega | assumption | (simp; done) | fail) only [zai h,zai (zm5 hs.len),zai (zl5 hs.len),hf,zcY,zay,zbU,zab,Nat.zero_add,Nat.le_refl,hlp]
    let st:Nat→(Nat×(Nat×Nat×Nat)×Int×Int×PUnit)×List (List D)×PUnit:=fun k=>((i,(i,0,s.pend.length),(s.pend.length:Int),(k:Int),PUnit.unit),T.set i (s.puts (s.pend.take k)).cells,PUnit.unit)
    have hst:st 0=((i,(i,0,s.pend.length),(s.pend.length:Int),0,PUnit.unit),T,PUnit.unit):=by
      show ((i,(i,0,s.pend.length),(s.pend.length:Int),0,PUnit.unit),T.set i (s.puts []).cells,PUnit.unit)=_
      rw [show s.puts []=s from rfl,set_same h]
    rw [←hst]
    refine zcy st s.pend.length (by omega) ?_ ?_
    · intro again k hk
      dsimp only [st]
      obtain ⟨w,hw⟩:∃ w,s.pend[k]? =some w:=⟨_,List.getElem?_eq_getElem hk⟩
      obtain ⟨hws,hw0,hw1⟩:=hs.pend w (List.mem_of_getElem? hw)
      obtain ⟨pk,pf,pp⟩:=zqp hs (s.pend.take k) fun w hw=>hs.pend w (List.mem_of_mem_take hw)
      have hU:=zkT h (s.puts (s.pend.take k)).cells
      have hpd:=zl5 (s:=s.puts (s.pend.take k)) pk.len
      rw [pp] at hpd
      have hnx:zaW (T.set i (s.puts (s.pend.take k)).cells) i (w.1.toNat*32) (uL w.2)=T.set i (s.puts (s.pend.take (k+1))).cells:=by
        rw [zdJ hU,zdw,hws.len,zCn pk.len (by omega),List.set_set,List.take_add_one,hw]
        show _=T.set i (s.puts (s.pend.take k++[w])).cells
        unfold DS.puts
        rw [List.foldl_append]; rfl
      simp (disch:=first | omega | assumption | (simp; done) | fail) [zai hU,zai hpd,zai (zAa hw),zdq _ hws.len,hws.len,zsp hws.len,zi4 pk.len,hk,zqV,zwb pk.len,hw0,hw1,zaq,hnx]
    · intro again
      dsimp only [st]
      rw [List.take_length]
      obtain ⟨pk,pf,pp⟩:=zqp hs s.pend hs.pend
      have hU:=zkT h (s.puts s.pend).cells
      have hz:=zvn hU pk.len []
      have hz':zaW (T.set i (s.puts s.pend).cells) i 1664 [D.sl Tag.own []]=T.set i s.flushed.cells:=by
        have:=zvn hU pk.len []
        rw [List.set_set] at this; exact this
      simp (disch:=first | omega | assumption | (simp; done) | fail) [zai hU,zi4 pk.len,hz']
  · simp (disch:=first | omega | assumption | (simp; done) | fail) [zai h,zai (zm5 hs.len),hf,set_same h]
theorem zAc (h:T[i]? =some s.cells) (hs:s.Ok):zbg [.h kD i 0] [T]=some (Ans.mk (.int .i64 s.pend.length) [] []):=by
  rw [zjB]
  unfold zeC
  simp [zai h,zai (zl5 hs.len)]
theorem zES (h:T[i]? =some s.cells) (hs:s.Ok):zbD [.h kD i 0] [T]=some (Ans.mk (.tup []) [] [T.set i DS.dead.cells]):=by
  rw [zmk]
  unfold zfW
  have e:List.map D.own0 (List.set (List.reverse ([D.bool false,D.sl Tag.nil []]++List.replicate 1664 (D.int IntKind.u8 (0:Int)))) 1665 (D.bool true))=DS.dead.cells:=by
    rw [List.reverse_append,List.reverse_replicate]
    show List.map D.own0 (List.set (List.replicate 1664 (D.int IntKind.u8 (0:Int))++[D.sl Tag.nil [],D.bool false]) 1665 (D.bool true))=uL (List.replicate 1664 0)++[.sl .own [],.bool true]
    rw [List.set_append_right _ _ (by rw [List.length_replicate]; omega),List.length_replicate,List.map_append,zoO,zCu]
    rfl
  have hl:DS.dead.cells.length=1666:=zi4 (s:=DS.dead) (List.length_replicate ..)
  have hset:zaW T i 0 DS.dead.cells=T.set i DS.dead.cells:=by
    rw [zdJ h,hl]
    rw [List.take_zero,List.nil_append,List.drop_of_length_le (by rw [zi4 hs.len]; omega),List.append_nil]
  rw [e,hset,zai h,zi4 hs.len]
  simp
end
end Wf

namespace Wf
open Go Go.RowKit Go.Proofs
set_option linter.unusedSimpArgs false
set_option linter.unusedVariables false
section
variable {T0 T1:Tb} {b:Nat} {idx:List Nat} {B:Ben}
theorem At.ds (h:At T0 T1 b idx B) (hw:B.w≤1000000) (d:Int):(B.dk d).Ok∧(B.dk d).pend.length≤1000000:=by
  have:=zk9 h.ok d
  exact ⟨this.1,by have:=this.2; omega⟩
theorem zyo (h:At T0 T1 b idx B):zav [.h kB b 0] [P0 T0 b idx B]=some (Ans.mk (.int .i64 B.n) [] []):=by
  rw [zls]
  unfold zfs
  simp [zai h.get0,bRow,h.len,Ben.n]
theorem b_is (h:At T0 T1 b idx B) (d:Int):zan [.h kB b 0,.int .i64 d] [P0 T0 b idx B]=some (Ans.mk (.bool (B.is d)) [] []):=by
  rw [zmg]
  unfold zfV Ben.is Ben.n
  by_cases h0:0≤d
  · simp [zai h.get0,bRow,h0,h.len]
  · simp [h0]
theorem ztN (h:At T0 T1 b idx B) (d:Int):zal [.h kB b 0,.int .i64 d] [P0 T0 b idx B,P1 T1 idx B]=some (Ans.mk (.bool (B.failed d)) [] []):=by
  rw [ziN]
  unfold zeb Ben.failed
  cases hd:B.is d
  · simp [b_is h d,hd]
  · obtain ⟨h0,h1⟩:=zfJ.1 hd
    have h1':d.toNat < idx.length:=by have:=h.len; unfold Ben.n at h1; omega
    simp (disch:=first | omega | assumption | (simp; done) | fail) [b_is h d,hd,zai h.get0,bRow,h0,h1',zai (h.hd hd),D.isAgg,D.width,D.cell,zBJ (h.get1 hd) (zk9 h.ok d).1]
theorem zvo (h:At T0 T1 b idx B) (d:Int):zaw [.h kB b 0,.int .i64 d] [P0 T0 b idx B]=some (Ans.mk (.int .i64 (B.may d)) [] []):=by
  rw [zlt]
  unfold zft Ben.may
  cases hd:B.is d
  · simp [b_is h d,hd]
  · cases hw:B.down<;>simp [b_is h d,hd,zai h.get0,bRow,hw]
theorem zAd (h:At T0 T1 b idx B) (hw:B.w≤1000000) (d a:Int):zaL [.h kB b 0,.int .i64 d,.int .i64 a] [P0 T0 b idx B,P1 T1 idx B]=some (Ans.mk (.tup [.sl .own (uL (B.read d a).1),.int .i64 (B.read d a).2]) [] []):=by
  rw [zkk]
  unfold ze2 Ben.read
  by_cases hm:B.may d=0
  · obtain ⟨hd,hdn⟩:=may0.1 hm
    obtain ⟨h0,h1⟩:=zfJ.1 hd
    have h1':d.toNat < idx.length:=by have:=h.len; unfold Ben.n at h1; omega
    have hu:=zgH ((B.dk d).read a).1
    simp only [List.all_eq_true] at hu
    simp (disch:=first | omega | assumption | (simp; done) | fail) [zvo h d,hm,zai h.get0,bRow,h0,h1',zai (h.hd hd),D.isAgg,D.width,D.cell,zEQ (h.get1 hd) (h.ds hw d).1 (h.ds hw d).2]
  · simp [zvo h d,hm]; rfl
theorem zDE (h:At T0 T1 b idx B) (tg:Tag) (live:List Bool) {d:Int} (h0:0≤d):za1 [.h kB b 0,.sl tg (live.map D.bool),.int .i64 d] [P0 T0 b idx B,P1 T1 idx B]=some (Ans.mk (.bool (B.up live d)) [] []):=by
  have hl:D.lentL (live.map D.bool)=live.map D.bool:=by
    induction live with
    | nil=>rfl
    | cons x l ih=>simp [ih]
  rw [zrc,hl]
  unfold zml Ben.up
  by_cases h1:d < B.n
  · by_cases h2:d < live.length
    · have e:live[d.toNat]? =some (live[d.toNat]'(by omega)):=List.getElem?_eq_getElem (by omega)
      have e':(live.map D.bool)[d.toNat]? =some (.bool (live[d.toNat]'(by omega))):=by simp [e]
      cases hv:live[d.toNat]'(by omega)
      · rw [hv] at e e'
        simp [zyo h,h1,h2,h0,zai e',e,hv]
      · rw [hv] at e e'
        simp [zyo h,h1,h2,h0,zai e',e,ztN h d,hv]
    · have e:live[d.toNat]? =none:=List.getElem?_eq_none (by omega)
      simp [zyo h,h1,h2,e]
  · simp [zyo h,h1]
theorem zAe (h:At T0 T1 b idx B) (hw:B.w≤1000000):za0 [.h kB b 0] [P0 T0 b idx B]=some (Ans.mk (.bool (decide (B.left≠0))) [] [P0 T0 b idx (if B.left=0 then B.off else B.less)]):=by
  rw [zif]
  unfold zdQ
  have hw0:=h.ok.w0
  have hlf:=h.ok.lf
  have hg:=h.get0
  have hset:∀ (B':Ben) (T:Tb) (cs:List D) (o:Nat) (x:D),T=P0 T0 b idx B'→cs=bRow B' idx→∀ B'':Ben,cs.take o++[x]++cs.drop (o+1)=bRow B'' idx→zaW T b o [x]=P0 T0 b idx B'':=by
    rintro B' _ _ o x rfl rfl B'' e
    have hg':(P0 T0 b idx B')[b]? =some (bRow B' idx):=by unfold P0; rw [List.getElem?_set,if_pos rfl,if_pos h.b]
    rw [zdJ hg']
    show (P0 T0 b idx B').set b ((bRow B' idx).take o++[x]++(bRow B' idx).drop (o+1))=_
    rw [e,zEN]
  by_cases hl:B.left=0
  · have e1:=hset B _ _ 2 (.bool true) rfl rfl B.off rfl
    simp (disch:=first | omega | assumption | (simp; done) | fail) [zai hg,bRow,hl,e1,zhu,D.flat]
  · by_cases hp:0 < B.left
    · let B1:Ben:={ B with left:=B.left - 1 }
      have e1:=hset B _ _ 1 (.int .i64 (B.left - 1)) rfl rfl B1 rfl
      have hg1:(P0 T0 b idx B1)[b]? =some (bRow B1 idx):=by unfold P0; rw [List.getElem?_set,if_pos rfl,if_pos h.b]
      have e2:=hset B1 _ _ 0 (.int .i64 (B.w+1)) rfl rfl B.less (by unfold Ben.less; rw [if_pos hp]; rfl)
      have e3:bRow B1 idx=[.int .i64 B.w,.int .i64 (B.left - 1),.bool B.down,.sl .own (idx.map hD)]:=rfl
      rw [e3] at hg1
      simp (disch:=first | omega | assumption | (simp; done) | fail) [zai hg,zai hg1,bRow,hl,hp,e1,e2,zhu,D.flat,zaq]
    · have e1:=hset B _ _ 0 (.int .i64 (B.w+1)) rfl rfl B.less (by unfold Ben.less; rw [if_neg hp]; rfl)
      simp (disch:=first | omega | assumption | (simp; done) | fail) [zai hg,bRow,hl,hp,e1,zhu,D.flat,zaq]
theorem zDF (h:At T0 T1 b idx B) (hw:B.w≤1000000) (d a:Int) (tg:Tag) (x:List Int):
    zbe [.h kB b 0,.int .i64 d,.int .i64 a,.sl tg (uL x)] [P0 T0 b idx B,P1 T1 idx B]=some (Ans.mk (.int .i64 (B.write d a x).1) [] [P0 T0 b idx (B.write d a x).2,P1 T1 idx (B.write d a x).2]):=by
  rw [zjx,zcO]
  unfold zeA Ben.write
  by_cases hm:B.may d=0
  · obtain ⟨hd,hdn⟩:=may0.1 hm
    obtain ⟨h0,h1⟩:=zfJ.1 hd
    obtain ⟨ho,hp⟩:=h.ds hw d
    have h1':d.toNat < idx.length:=by have:=h.len; unfold Ben.n at h1; omega
    have hT:(P1 T1 idx B++[(B.dk d).cells])[(P1 T1 idx B).length]? =some (B.dk d).cells:=by simp
    have hj:(P1 T1 idx B++[(B.dk d).cells]).set (P1 T1 idx B).length ((B.dk d).write a x).2.cells=P1 T1 idx (B.junk ((B.dk d).write a x).2):=by
      rw [List.set_append_right _ _ (Nat.le_refl _),Nat.sub_self,←zDv]; rfl
    have hJ:At T0 T1 b idx (B.junk ((B.dk d).write a x).2):=h.nx (K:=0) ⟨zqq h.ok _,rfl,by simp,by simp⟩
    have hd':(B.junk ((B.dk d).write a x).2).is d=true:=hd
    have hg1:=hJ.get1 hd'
    have hset:=hJ.set1 hd' ((B.dk d).write a x).2
    have hw1:=ztL (T:=P1 T1 idx (B.junk ((B.dk d).write a x).2)) (i:=ix idx d) (s:=B.dk d) hg1 ho hp a .lent x
    have hgr:∀ B':Ben,(P0 T0 b idx B')[b]? =some [.int .i64 B'.w,.int .i64 B'.left,.bool B'.down,.sl .own (idx.map hD)]:=by
      intro B'; unfold P0; rw [List.getElem?_set,if_pos rfl,if_pos h.b]; rfl
    by_cases he:(B.dk d).mayW a x=0
    · have e1:((B.dk d).write a x).1=0:=he
      have e2:((B.dk d).write a x).2=(B.dk d).add a x:=by unfold DS.write; rw [if_pos he]
      by_cases hl:B.left=0
      · simp (disch:=first | omega | assumption | (simp; done) | fail) [zvo h d,hm,zai (hgr _),h0,h1',zai (h.hd hd),D.isAgg,D.width,D.cell,zwv (h.get1 hd) ho hp,zi2,ztL hT ho hp,hj,he,e1,zAe h hw,hl]
        exact ⟨rfl,rfl⟩
      · simp (disch:=first | omega | assumption | (simp; done) | fail) [zvo h d,hm,zai (hgr _),h0,h1',zai (h.hd hd),D.isAgg,D.width,D.cell,zwv (h.get1 hd) ho hp,zi2,ztL hT ho hp,hj,he,e1,zAe h hw,hl,hw1,hset]
        rw [e2]; exact ⟨rfl,rfl⟩
    · have e1:¬ ((B.dk d).write a x).1=0:=he
      simp (disch:=first | omega | assumption | (simp; done) | fail) [zvo h d,hm,zai (hgr _),h0,h1',zai (h.hd hd),D.isAgg,D.width,D.cell,zwv (h.get1 hd) ho hp,zi2,ztL hT ho hp,hj,he,e1]
      exact ⟨rfl,rfl⟩
  · simp [zvo h d,hm]
theorem zDG (h:At T0 T1 b idx B) (hw:B.w≤1000000) (d:Int):
    zbf [.h kB b 0,.int .i64 d] [P0 T0 b idx B,P1 T1 idx B]=some (Ans.mk (.int .i64 (B.flush d).1) [] [P1 T1 idx (B.flush d).2]):=by
  rw [zjz]
  unfold zeB Ben.flush
  by_cases hm:B.may d=0
  · obtain ⟨hd,hdn⟩:=may0.1 hm
    obtain ⟨h0,h1⟩:=zfJ.1 hd
    obtain ⟨ho,hp⟩:=h.ds hw d
    have h1':d.toNat < idx.length:=by have:=h.len; unfold Ben.n at h1; omega
    simp (disch:=first | omega | assumption | (simp; done) | fail) [zvo h d,hm,zai h.get0,bRow,h0,h1',zai (h.hd hd),D.isAgg,D.width,D.cell,zDD (h.get1 hd) ho hp,h.set1 hd]
  · simp [zvo h d,hm]
theorem zET (h:At T0 T1 b idx B) (d:Int):
    zbc [.h kB b 0,.int .i64 d] [P0 T0 b idx B,P1 T1 idx B]=some (Ans.mk (.int .i64 (B.fail d).1) [] [P1 T1 idx (B.fail d).2]):=by
  rw [zkc]
  unfold zeZ Ben.fail
  cases hd:B.is d
  · simp [b_is h d,hd]
  · obtain ⟨h0,h1⟩:=zfJ.1 hd
    have h1':d.toNat < idx.length:=by have:=h.len; unfold Ben.n at h1; omega
    simp (disch:=first | omega | assumption | (simp; done) | fail) [b_is h d,hd,zai h.get0,bRow,h0,h1',zai (h.hd hd),D.isAgg,D.width,D.cell,zES (h.get1 hd) (zk9 h.ok d).1,h.set1 hd]
theorem zBO (h:At T0 T1 b idx B) (hw:B.w≤1000000) (d:Int) {a:Int} (hc:∀ w∈(B.dk d).pend,w.1≠a) (tg:Tag) (x:List Int):
    za7 [.h kB b 0,.int .i64 d,.int .i64 a,.sl tg (uL x)] [P0 T0 b idx B,P1 T1 idx B]=some (Ans.mk (.int .i64 (B.damage d a x).1) [] [P1 T1 idx (B.damage d a x).2]):=by
  rw [ziK,zcO]
  unfold zd9 Ben.damage
  cases hd:B.is d
  · simp [b_is h d,hd]
  · obtain ⟨h0,h1⟩:=zfJ.1 hd
    obtain ⟨ho,hp⟩:=h.ds hw d
    have h1':d.toNat < idx.length:=by have:=h.len; unfold Ben.n at h1; omega
    simp (disch:=first | omega | assumption | (simp; done) | fail) [b_is h d,hd,zai h.get0,bRow,h0,h1',zai (h.hd hd),D.isAgg,D.width,D.cell,zBK (h.get1 hd) ho hp hc,h.set1 hd]
def ztO (B:Ben):Nat→Int
  | 0=>0
  | k+1=>ztO B k+(B.dk k).pend.length
theorem zxu (hB:B.Ok):∀ k,0≤ztO B k∧ztO B k≤k*B.w
  | 0=>⟨Int.le_refl _,by simp [ztO]⟩
  | k+1=>by
    have:=zxu hB k
    have h2:=(zk9 hB k).2
    have e:((k+1:Nat):Int)*B.w=k*B.w+B.w:=by rw [Int.natCast_add,Int.add_mul]; simp
    unfold ztO; rw [e]; omega
def Ben.pending (B:Ben):Int:=ztO B B.ds.length
theorem zqW (h:At T0 T1 b idx B) (hw:B.w≤1000000):zaR [.h kB b 0] [P0 T0 b idx B,P1 T1 idx B]=some (Ans.mk (.int .i64 B.pending) [] []):=by
  rw [zii]
  unfold zdR Ben.pending
  have hrow:(P0 T0 b idx B)[b]? =some [.int .i64 B.w,.int .i64 B.left,.bool B.down,.sl .own (idx.map hD)]:=h.get0
  have hsm:=h.ok.small
  simp (disch:=first | omega | assumption | (simp; done) | fail) only [zai hrow,zgG,zqh,zbU,zab,Nat.zero_add,Nat.le_refl,List.length_map,h.len]
  let st:Nat→(Int×(Nat×Nat×Nat)×Int×Int×PUnit)×List (List D)×List (List D)×PUnit:=fun k=>((ztO B k,(b,0,B.ds.length),(B.ds.length:Int),(k:Int),PUnit.unit),P0 T0 b idx B,P1 T1 idx B,PUnit.unit)
  show zce _ (st 0)=_
  refine zcy st B.ds.length (by omega) ?_ ?_
  · intro again k hk
    dsimp only [st]
    have hd:B.is k=true:=zfJ.2 ⟨by omega,by unfold Ben.n; omega⟩
    have hp:=zxu h.ok k
    have h2:=(zk9 h.ok k).2
    have hkw:(k:Int)*B.w≤8*1000000:=Int.mul_le_mul (by omega) hw h.ok.w0 (by omega)
    have hhd:(idx.map hD)[k]? =some (.h kD (ix idx k) 0):=by have:=h.hd hd; simpa using this
    have hw0:=h.ok.w0
    simp (disch:=first | omega | assumption | (simp; done) | fail) [zai hrow,hk,zai hhd,D.isAgg,D.width,D.cell,zAc (h.get1 hd) (zk9 h.ok _).1,zaq]
    rfl
  · intro again
    dsimp only [st]
    simp
end
end Wf

namespace Wf
open Go Go.RowKit Go.Proofs
set_option linter.unusedSimpArgs false
set_option linter.unusedVariables false
theorem gf_double (a:Int):zaY [.int .u8 a]=some (.int .u8 (dbl a)):=by
  rw [zrh]
  unfold zmq dbl
  by_cases h:128≤a
  · simp [h]
  · simp [h]
theorem zEU (a b:Int) (h0:0≤b) (h1:b < 256):zem [.int .u8 a,.int .u8 b]=some (.int .u8 (mul8 a b)):=by
  rw [zwl]
  unfold ztt
  refine zkU (fun x=>x.1.2.1.toNat) (fun _=>some (D.int .u8 (mul8 a b)))
    (fun x=>∃ (n:Nat) (a' b' o:Int),0≤b'∧b' < 2 ^ n∧n≤8∧mulA n a' b' o=mul8 a b∧x=((a',b',o,PUnit.unit),PUnit.unit)) ?_ ⟨8,a,b,0,h0,h1,Nat.le_refl _,rfl,rfl⟩ (by simp; omega)
  rintro again _ ⟨n,a',b',o,p0,p1,p2,p3,rfl⟩ hag
  dsimp only
  by_cases hb:b' > 0
  · have hd:decide (b' > 0)=true:=by simp [hb]
    rw [hd,za8,zaQ]
    cases n with
    | zero=>simp at p1; omega
    | succ n=>
      have hdiv:b'.fdiv 2=b' / 2:=Int.fdiv_eq_ediv_of_nonneg _ (by omega)
      have hlt:b' / 2 < 2 ^ n:=by
        have:(2:Int) ^ (n+1)=2 ^ n*2:=Int.pow_succ ..
        omega
      by_cases hone:bits .and .u8 b' 1=1
      · have hbo:(bits .and .u8 b' 1 == 1)=true:=by simp [hone]
        rw [hbo,za8,zaQ,gf_double,zah,zbH,zaQ,hdiv]
        refine hag _ ⟨n,_,_,_,by omega,hlt,by omega,?_,rfl⟩ (by simp; omega)
        rw [←p3]
        show _=mulA n (dbl a') (b' / 2) (if bits .and .u8 b' 1=1 then xor8 o a' else o)
        rw [if_pos hone]
      · have hbo:(bits .and .u8 b' 1 == 1)=false:=by simp [hone]
        rw [hbo,zay,gf_double,zah,zbH,zaQ,hdiv]
        refine hag _ ⟨n,_,_,_,by omega,hlt,by omega,?_,rfl⟩ (by simp; omega)
        rw [←p3]
        show _=mulA n (dbl a') (b' / 2) (if bits .and .u8 b' 1=1 then xor8 o a' else o)
        rw [if_neg hone]
  · have hd:decide (b' > 0)=false:=by simp [hb]
    have:b'=0:=by omega
    subst this
    rw [hd,zay,←p3,zzE]
theorem zBP {a b:List Int} {k:Nat} {x y:Int} (h1:a[k]? =some x) (h2:b[k]? =some y):(List.zipWith xor8 a b).take (k+1)=(List.zipWith xor8 a b).take k++[xor8 x y]:=by
  rw [List.take_add_one]
  congr 1
  simp [List.getElem?_zipWith,h1,h2]
theorem zhr (t t':Tag) (a b:List Int) (ha:a.length < 100000):zaK [.sl t (uL a),.sl t' (uL b)]=some (.sl .own (uL (addL a b))):=by
  rw [ztu,zcO,zcO]
  unfold zof addL
  by_cases hl:a.length=b.length
  · have hb:(((uL a).length:Int) != ((uL b).length:Int))=false:=by simp [hl]
    rw [hb,zay,if_pos hl]
    let st:Nat→(List D×List D×List D×Int×Int×PUnit)×PUnit:=fun k=>((uL b,uL ((List.zipWith xor8 a b).take k),uL a,(a.length:Int),(k:Int),PUnit.unit),PUnit.unit)
    have hst:st 0=((uL b,[],uL a,((uL a).length:Int),0,PUnit.unit),PUnit.unit):=by simp [st,uL]
    rw [←hst]
    refine zb6 st a.length ha ?_ ?_
    · intro again k hk
      dsimp only [st]
      have h1:a[k]? =some a[k]:=List.getElem?_eq_getElem hk
      have h2:b[k]? =some (b[k]'(by omega)):=List.getElem?_eq_getElem (by omega)
      have hd:decide ((k:Int) < (a.length:Int))=true:=by simp; omega
      rw [hd,za8,zab (by omega),zai (by simpa using zi3 h1),zbH,zab (by omega),zai (by simpa using zi3 h2),zbH,zaQ,zab (by simp; omega),zab (by rfl),zaQ,zaq (by omega) (by omega),zab (by simp)]
      rw [zBP h1 h2,←zzP]
      rfl
    · intro again
      dsimp only [st]
      have hd:decide ((a.length:Int) < (a.length:Int))=false:=by simp
      have ht:(List.zipWith xor8 a b).take a.length=List.zipWith xor8 a b:=List.take_of_length_le (by simp; omega)
      rw [hd,zay,zab (by rfl),zab (zgH _),ht]
  · have hb:(((uL a).length:Int) != ((uL b).length:Int))=true:=by simp; omega
    rw [hb,za8,if_neg hl]
    rfl
theorem zik (t:Tag) (a:List Int) (ha:a.length < 100000) {f:Int} (h0:0≤f) (h1:f < 256):zaH [.sl t (uL a),.int .u8 f]=some (.sl .own (uL (a.map (mul8 · f)))):=by
  rw [zqM,zcO]
  unfold zkq
  let st:Nat→(Int×List D×List D×Int×Int×PUnit)×PUnit:=fun k=>((f,uL ((a.map (mul8 · f)).take k),uL a,(a.length:Int),(k:Int),PUnit.unit),PUnit.unit)
  have hst:st 0=((f,[],uL a,((uL a).length:Int),0,PUnit.unit),PUnit.unit):=by simp [st,uL]
  rw [←hst]
  refine zb6 st a.length ha ?_ ?_
  · intro again k hk
    dsimp only [st]
    have h2:a[k]? =some a[k]:=List.getElem?_eq_getElem hk
    have hd:decide ((k:Int) < (a.length:Int))=true:=by simp; omega
    rw [hd,za8,zab (by omega),zai (by simpa using zi3 h2),zbH,zEU _ _ h0 h1,zah,zbH,zab (by simp; omega),zab (by rfl),zaQ,zaq (by omega) (by omega),zab (by simp)]
    have:(a.map (mul8 · f)).take (k+1)=(a.map (mul8 · f)).take k++[mul8 a[k] f]:=by rw [List.take_add_one]; simp [h2]
    rw [this,←zzP]
    rfl
  · intro again
    dsimp only [st]
    have hd:decide ((a.length:Int) < (a.length:Int))=false:=by simp
    have ht:(a.map (mul8 · f)).take a.length=a.map (mul8 · f):=List.take_of_length_le (by simp)
    rw [hd,zay,zab (by rfl),zab (zgH _),ht]
abbrev Part:=Tag×List Int
def pL (ps:List Part):List D:=ps.map fun x=>.sl x.1 (uL x.2)
def zbV (t:Tag) (l:List Int):Tag:=match t,l with
  | .nil,_=>.nil
  | .nn,[]=>.nn
  | .nul,[]=>.nul
  | _,_=>.lent
theorem zDH (t:Tag) (l:List Int):D.lent (.sl t (uL l))=.sl (zbV t l) (uL l):=by
  have h:=zcO l
  cases l with
  | nil=>cases t<;>rfl
  | cons n l=>
    have e:uL (n::l)=.int .u8 n::uL l:=rfl
    rw [e] at h ⊢
    cases t<;>simp only [D.lent,h,zbV]<;>simp [D.lentL,D.lent,zcO]
theorem zcQ (ps:List Part):D.lentL (pL ps)=pL (ps.map fun x=>(zbV x.1 x.2,x.2)):=by
  unfold pL
  rw [zpV,List.map_map,List.map_map]
  apply List.map_congr_left
  intro x _
  exact zDH x.1 x.2
@[simp] theorem zvp (ps:List Part):(pL ps).length=ps.length:=by simp [pL]
theorem zcv {ps:List Part} {k:Nat} {x:Part} (h:ps[k]? =some x):(pL ps)[k]? =some (.sl x.1 (uL x.2)):=by simp [pL,h]
theorem zAf (ps:List Part) (t:Tag) (l:List Int):pL ps++[.sl t (uL l)]=pL (ps++[(t,l)]):=by simp [pL]
theorem zoV (ps:List Part) (i:Nat) (t:Tag) (l:List Int):(pL ps).set i (.sl t (uL l))=pL (ps.set i (t,l)):=by simp [pL,List.map_set]
def Part.free (x:Part):Bool:=x.1=.fresh || x.1=.full || x.1=.nil
theorem zkD {ps:List Part} (h:∀ x∈ps,x.free=true):(pL ps).all D.free=true:=by
  unfold pL
  rw [List.all_map,List.all_eq_true]
  intro x hx
  have:=h x hx
  obtain ⟨t,l⟩:=x
  cases t<;>first | (exact zth l) | (exact absurd this (by simp [Part.free]))
theorem zvq (k:Nat) (hk:k < 255):zaS [.int .i64 k]=some (.int .u8 (pow8 k)):=by
  rw [zqN]
  unfold zps
  have e1:Int.tmod (k:Int) 255=k:=by rw [Int.tmod_eq_emod_of_nonneg (by omega),Int.emod_eq_of_lt (by omega) (by omega)]
  have e2:Int.tmod ((k:Int)+255) 255=k:=by
    rw [Int.tmod_eq_emod_of_nonneg (by omega),Int.add_emod_right,Int.emod_eq_of_lt (by omega) (by omega)]
  rw [zaQ,e1,zaQ,zaq (by omega) (by omega),zaQ,e2]
  refine zb6 (fun j=>((pow8 j,(k:Int),(j:Int),PUnit.unit),PUnit.unit)) k (by omega) ?_ ?_
  · intro again j hj
    dsimp only
    have hd:decide ((j:Int) < (k:Int))=true:=by simp; omega
    rw [hd,za8,gf_double,zah,zbH,zaQ,zaq (by omega) (by omega)]
    rfl
  · intro again
    have hd:decide ((k:Int) < (k:Int))=false:=by simp
    dsimp only
    rw [hd,zay]
theorem zAg (tg:Tag) {ps:List Part} {n:Nat} (hn:n < 100000) (h0:0 < ps.length) (h1:ps.length < 255) (h:∀ x∈ps,x.2.length=n):
    zbR [.sl tg (pL ps)]=some (.sl .own (uL (sumP n (ps.map (·.2))))):=by
  rw [zwm,zcQ]
  unfold zty
  have hsum:∀ {qs:List Part},0 < qs.length→qs.length < 255→(∀ x∈qs,x.2.length=n)→∀ tg,zbF [.sl tg (pL qs),.fn ID.synd_P_1 [] []]=some (.sl .own (uL (sumP n (qs.map (·.2))))):=by
    intro qs h0 h1 h tg
    rw [zpa,zcQ]
    have hl':∀ x∈(qs.map fun x=>(zbV x.1 x.2,x.2)),x.2.length=n:=by
      intro x hx; obtain ⟨y,hy,rfl⟩:=List.mem_map.1 hx; exact h y hy
    have hm:(qs.map fun x=>(zbV x.1 x.2,x.2)).map (·.2)=qs.map (·.2):=by rw [List.map_map]; rfl
    rw [←hm]
    have hlen:(qs.map fun x=>(zbV x.1 x.2,x.2)).length=qs.length:=by simp
    rw [←hlen] at h0 h1
    generalize (qs.map fun x=>(zbV x.1 x.2,x.2))=rs at*
    clear hm hlen h qs
    unfold ziP
    have hb:(((pL rs).length:Int) == 0)=false:=by simp; intro e; rw [e] at h0; simp at h0
    obtain ⟨x0,hx0⟩:∃ x,rs[0]? =some x:=⟨_,List.getElem?_eq_getElem h0⟩
    have hx0l:=hl' x0 (List.mem_of_getElem? hx0)
    rw [hb,zay,zai (zcv hx0),zeR,zab (by rfl),zdw,hx0l,zab (by omega),zab (by omega),zab (by simp),Int.toNat_natCast,zoO]
    have hls:∀ l∈rs.map (·.2),l.length=n:=by intro l hl; obtain ⟨y,hy,rfl⟩:=List.mem_map.1 hl; exact hl' y hy
    let st:Nat→(List D×List D×Int×Int×PUnit)×PUnit:=fun k=>((uL (sumK (fun _=>1) n (rs.map (·.2)) k),pL rs,((pL rs).length:Int),(k:Int),PUnit.unit),PUnit.unit)
    have hst:st 0=((uL (List.replicate n 0),pL rs,((pL rs).length:Int),0,PUnit.unit),PUnit.unit):=rfl
    rw [←hst]
    refine zb6 st rs.length (by omega) ?_ ?_
    · intro again k hk
      dsimp only [st]
      obtain ⟨x,hx⟩:∃ x,rs[k]? =some x:=⟨_,List.getElem?_eq_getElem hk⟩
      have hxl:=hl' x (List.mem_of_getElem? hx)
      have hd:decide ((k:Int) < ((pL rs).length:Int))=true:=by simp; omega
      have hsl:=zkW (f:=fun _=>1) hls (k:=k) (by simp; omega)
      rw [hd,za8,zab (by omega),zai (by simpa using zcv hx),zeR,zab (by omega)]
      have hb2:(((uL x.2).length:Int) != ((uL (sumK (fun _=>1) n (rs.map (·.2)) k)).length:Int))=false:=by simp [hxl,hsl]
      have hone:zbx [.int .i64 (k:Int)]=some (.int .u8 1):=by rw [ztv]; rfl
      rw [hb2,zay,hone,zah,zbH,zik _ _ (by omega) (by omega) (by omega),zah,zbU,zab (by omega),zab (by omega),zc7,zc7,zhr _ _ _ _ (by omega),zah,zbU,zaQ,
        zaq (by omega) (by omega),zab (by rfl)]
      have he:addL (sumK (fun _=>1) n (rs.map (·.2)) k) (x.2.map (mul8 · 1))=sumK (fun _=>1) n (rs.map (·.2)) (k+1):=by
        unfold addL
        rw [if_pos (by simp [hsl,hxl])]
        have:(rs.map (·.2)).getD k []=x.2:=by simp [List.getD_eq_getElem?_getD,hx]
        simp only [sumK,this]
      rw [he]
      rfl
    · intro again
      dsimp only [st]
      have hd:decide ((rs.length:Int) < ((pL rs).length:Int))=false:=by simp
      rw [hd,zay,zab (by rfl),zab (zgH _)]
      simp [sumP]
  rw [hsum (by simpa using h0) (by simpa using h1) (by intro x hx; obtain ⟨y,hy,rfl⟩:=List.mem_map.1 hx; exact h y hy),zah,zbU,zab (by rfl),zab (zgH _),List.map_map]
  rfl
theorem zAh (tg:Tag) {ps:List Part} {n:Nat} (hn:n < 100000) (h0:0 < ps.length) (h1:ps.length < 255) (h:∀ x∈ps,x.2.length=n):
    zbS [.sl tg (pL ps)]=some (.sl .own (uL (sumQ n (ps.map (·.2))))):=by
  rw [zwn,zcQ]
  unfold ztz
  have hsum:∀ {qs:List Part},0 < qs.length→qs.length < 255→(∀ x∈qs,x.2.length=n)→∀ tg,zbF [.sl tg (pL qs),.fn ID.gf_Pow [] []]=some (.sl .own (uL (sumQ n (qs.map (·.2))))):=by
    intro qs h0 h1 h tg
    rw [zpb,zcQ]
    have hl':∀ x∈(qs.map fun x=>(zbV x.1 x.2,x.2)),x.2.length=n:=by
      intro x hx; obtain ⟨y,hy,rfl⟩:=List.mem_map.1 hx; exact h y hy
    have hm:(qs.map fun x=>(zbV x.1 x.2,x.2)).map (·.2)=qs.map (·.2):=by rw [List.map_map]; rfl
    rw [←hm]
    have hlen:(qs.map fun x=>(zbV x.1 x.2,x.2)).length=qs.length:=by simp
    rw [←hlen] at h0 h1
    generalize (qs.map fun x=>(zbV x.1 x.2,x.2))=rs at*
    clear hm hlen h qs
    unfold ziQ
    have hb:(((pL rs).length:Int) == 0)=false:=by simp; intro e; rw [e] at h0; simp at h0
    obtain ⟨x0,hx0⟩:∃ x,rs[0]? =some x:=⟨_,List.getElem?_eq_getElem h0⟩
    have hx0l:=hl' x0 (List.mem_of_getElem? hx0)
    rw [hb,zay,zai (zcv hx0),zeR,zab (by rfl),zdw,hx0l,zab (by omega),zab (by omega),zab (by simp),Int.toNat_natCast,zoO]
    have hls:∀ l∈rs.map (·.2),l.length=n:=by intro l hl; obtain ⟨y,hy,rfl⟩:=List.mem_map.1 hl; exact hl' y hy
    let st:Nat→(List D×List D×Int×Int×PUnit)×PUnit:=fun k=>((uL (sumK pow8 n (rs.map (·.2)) k),pL rs,((pL rs).length:Int),(k:Int),PUnit.unit),PUnit.unit)
    have hst:st 0=((uL (List.replicate n 0),pL rs,((pL rs).length:Int),0,PUnit.unit),PUnit.unit):=rfl
    rw [←hst]
    refine zb6 st rs.length (by omega) ?_ ?_
    · intro again k hk
      dsimp only [st]
      obtain ⟨x,hx⟩:∃ x,rs[k]? =some x:=⟨_,List.getElem?_eq_getElem hk⟩
      have hxl:=hl' x (List.mem_of_getElem? hx)
      have hd:decide ((k:Int) < ((pL rs).length:Int))=true:=by simp; omega
      have hsl:=zkW (f:=pow8) hls (k:=k) (by simp; omega)
      rw [hd,za8,zab (by omega),zai (by simpa using zcv hx),zeR,zab (by omega)]
      have hb2:(((uL x.2).length:Int) != ((uL (sumK pow8 n (rs.map (·.2)) k)).length:Int))=false:=by simp [hxl,hsl]
      have hone:=zvq k (by omega)
      rw [hb2,zay,hone,zah,zbH,zik _ _ (by omega) (zhW k).1 (zhW k).2,zah,zbU,zab (by omega),zab (by omega),zc7,zc7,zhr _ _ _ _ (by omega),zah,zbU,zaQ,
        zaq (by omega) (by omega),zab (by rfl)]
      have he:addL (sumK pow8 n (rs.map (·.2)) k) (x.2.map (mul8 · (pow8 k)))=sumK pow8 n (rs.map (·.2)) (k+1):=by
        unfold addL
        rw [if_pos (by simp [hsl,hxl])]
        have:(rs.map (·.2)).getD k []=x.2:=by simp [List.getD_eq_getElem?_getD,hx]
        simp only [sumK,this]
      rw [he]
      rfl
    · intro again
      dsimp only [st]
      have hd:decide ((rs.length:Int) < ((pL rs).length:Int))=false:=by simp
      rw [hd,zay,zab (by rfl),zab (zgH _)]
      simp [sumQ]
  rw [hsum (by simpa using h0) (by simpa using h1) (by intro x hx; obtain ⟨y,hy,rfl⟩:=List.mem_map.1 hx; exact h y hy),zah,zbU,zab (by rfl),zab (zgH _),List.map_map]
  rfl
end Wf

