/- A part of the proof: lemmas that the law's row leans on. -/
import Derived.Test.YtlbdpbbpoghncaaPd
set_option linter.all false
namespace Wf
open Go Go.RowKit Go.Proofs
set_option linter.unusedVariables false
set_option maxRecDepth 100000
def zfB:Ann:={ loops:=[] }
noncomputable def zaa:List D→Option D:=denP Try.prog (zaz []) zfB [0] ID.wattlekeep_Within
theorem zik:za4 Try.prog ID.wattlekeep_Within (.pure [0] zaa):=zas (zaB []) zbB ⟨Try.f16,by kernel_rfl,by kernel_rfl,by kernel_rfl⟩
noncomputable def zcI:Fact Try.prog:=⟨ID.wattlekeep_Within,(.pure [0] zaa),zik⟩
noncomputable def zeo (a0:Int) (a1:Int):Option D:=
  brK (decide (a1 < (1:Int)))
    (some (D.int IntKind.i64 (0:Int)))
    (sif (a1≠(0:Int)) <|
    letN (Int.tmod a0 a1) fun n1=>
    brK (decide (n1 < (0:Int)))
      (letN (IntKind.wrap IntKind.i64 (n1+a1)) fun n2=>
      some (D.int IntKind.i64 n2))
      (some (D.int IntKind.i64 n1)))
theorem zlO (a0:Int) (a1:Int):denP Try.prog (zaz []) zfB [0] ID.wattlekeep_Within [.int .i64 a0,.int .i64 a1]=zeo a0 a1:=by kernel_rfl
theorem ziZ (a0:Int) (a1:Int):zaa [.int .i64 a0,.int .i64 a1]=zeo a0 a1:=zlO a0 a1
def zgx:Ann:={ loops:=[] }
noncomputable def zbs:List D→Option D:=denP Try.prog (zaz [(ID.wattlekeep_Within,(.pure [0] zaa))]) zgx [0] ID.wattleplay_Geom
theorem zjK:za4 Try.prog ID.wattleplay_Geom (.pure [0] zbs):=zas (zaB [zcI]) zbB ⟨Try.f64,by kernel_rfl,by kernel_rfl,by kernel_rfl⟩
noncomputable def zkS:Fact Try.prog:=⟨ID.wattleplay_Geom,(.pure [0] zbs),zjK⟩
noncomputable def zff (zaa:List D→Option D) (a0:Int):Option D:=
  zat (zaa [D.int IntKind.i64 a0,D.int IntKind.i64 (2:Int)]) fun r1=>
  asI IntKind.i64 r1 fun i2=>
  letN (IntKind.wrap IntKind.i64 ((5:Int)+i2)) fun n3=>
  letN (IntKind.wrap IntKind.i64 (Int.tdiv a0 (2:Int))) fun n4=>
  zat (zaa [D.int IntKind.i64 n4,D.int IntKind.i64 (3:Int)]) fun r5=>
  asI IntKind.i64 r5 fun i6=>
  sif ((0:Int)≤i6) <|
  getK ([D.int IntKind.i64 (1:Int),D.int IntKind.i64 (2:Int),D.int IntKind.i64 (4:Int)]) (Int.toNat i6) fun d7=>
  asI IntKind.i64 d7 fun i8=>
  letN (IntKind.wrap IntKind.i64 (Int.tdiv a0 (6:Int))) fun n9=>
  zat (zaa [D.int IntKind.i64 n9,D.int IntKind.i64 (4:Int)]) fun r10=>
  asI IntKind.i64 r10 fun i11=>
  letN (IntKind.wrap IntKind.i64 ((3:Int)+i11)) fun n12=>
  brK (n3 == (6:Int))
    (letN (IntKind.wrap IntKind.i64 (Int.tdiv a0 (6:Int))) fun n13=>
    zat (zaa [D.int IntKind.i64 n13,D.int IntKind.i64 (4:Int)]) fun r14=>
    asI IntKind.i64 r14 fun i15=>
    letN (IntKind.wrap IntKind.i64 ((4:Int)+i15)) fun n16=>
    letN (IntKind.wrap IntKind.i64 (Int.tdiv a0 (24:Int))) fun n17=>
    zat (zaa [D.int IntKind.i64 n17,D.int IntKind.i64 (40:Int)]) fun r18=>
    asI IntKind.i64 r18 fun i19=>
    brK (i19 == (36:Int))
      (zat (zaa [D.int IntKind.i64 a0,D.int IntKind.i64 (9:Int)]) fun r20=>
      asI IntKind.i64 r20 fun i21=>
      some (D.agg [D.int IntKind.i64 i21,D.int IntKind.i64 n16,D.int IntKind.i64 i8]))
      (brK (i19 == (37:Int))
        (zat (zaa [D.int IntKind.i64 a0,D.int IntKind.i64 (12:Int)]) fun r22=>
        asI IntKind.i64 r22 fun i23=>
        letN (IntKind.wrap IntKind.i64 (i23 - (1:Int))) fun n24=>
        some (D.agg [D.int IntKind.i64 n3,D.int IntKind.i64 n24,D.int IntKind.i64 i8]))
        (brK (i19 == (38:Int))
          (zat (zaa [D.int IntKind.i64 a0,D.int IntKind.i64 (9:Int)]) fun r25=>
          asI IntKind.i64 r25 fun i26=>
          letN (IntKind.wrap IntKind.i64 (i26 - (1:Int))) fun n27=>
          some (D.agg [D.int IntKind.i64 n3,D.int IntKind.i64 n16,D.int IntKind.i64 n27]))
          (brK (i19 == (39:Int))
            (some (D.agg [D.int IntKind.i64 n3,D.int IntKind.i64 (8:Int),D.int IntKind.i64 i8]))
            (some (D.agg [D.int IntKind.i64 n3,D.int IntKind.i64 n16,D.int IntKind.i64 i8]))))))
    (letN (IntKind.wrap IntKind.i64 (Int.tdiv a0 (24:Int))) fun n28=>
    zat (zaa [D.int IntKind.i64 n28,D.int IntKind.i64 (40:Int)]) fun r29=>
    asI IntKind.i64 r29 fun i30=>
    brK (i30 == (36:Int))
      (zat (zaa [D.int IntKind.i64 a0,D.int IntKind.i64 (9:Int)]) fun r31=>
      asI IntKind.i64 r31 fun i32=>
      some (D.agg [D.int IntKind.i64 i32,D.int IntKind.i64 n12,D.int IntKind.i64 i8]))
      (brK (i30 == (37:Int))
        (zat (zaa [D.int IntKind.i64 a0,D.int IntKind.i64 (12:Int)]) fun r33=>
        asI IntKind.i64 r33 fun i34=>
        letN (IntKind.wrap IntKind.i64 (i34 - (1:Int))) fun n35=>
        some (D.agg [D.int IntKind.i64 n3,D.int IntKind.i64 n35,D.int IntKind.i64 i8]))
        (brK (i30 == (38:Int))
          (zat (zaa [D.int IntKind.i64 a0,D.int IntKind.i64 (9:Int)]) fun r36=>
          asI IntKind.i64 r36 fun i37=>
          letN (IntKind.wrap IntKind.i64 (i37 - (1:Int))) fun n38=>
          some (D.agg [D.int IntKind.i64 n3,D.int IntKind.i64 n12,D.int IntKind.i64 n38]))
          (brK (i30 == (39:Int))
            (some (D.agg [D.int IntKind.i64 n3,D.int IntKind.i64 (8:Int),D.int IntKind.i64 i8]))
            (some (D.agg [D.int IntKind.i64 n3,D.int IntKind.i64 n12,D.int IntKind.i64 i8]))))))
theorem znJ (zaa:List D→Option D) (a0:Int):denP Try.prog (zaz [(ID.wattlekeep_Within,(.pure [0] zaa))]) zgx [0] ID.wattleplay_Geom [.int .i64 a0]=zff zaa a0:=by kernel_rfl
theorem zkT (a0:Int):zbs [.int .i64 a0]=zff zaa a0:=znJ zaa a0
def zfC:Ann:={ loops:=[] }
noncomputable def zaf:List D→Option D:=denP Try.prog (zaz []) zfC [0] ID.wattleref01_Check
theorem zil:za4 Try.prog ID.wattleref01_Check (.pure [0] zaf):=zas (zaB []) zbB ⟨Try.f53,by kernel_rfl,by kernel_rfl,by kernel_rfl⟩
noncomputable def zcJ:Fact Try.prog:=⟨ID.wattleref01_Check,(.pure [0] zaf),zil⟩
noncomputable def zep (a0_0:Int) (a0_1:Int) (a0_2:Int):Option D:=
  brK (a0_0 == (6:Int))
    (brK (a0_0 == (5:Int))
      (brK (decide (a0_1≥(4:Int)))
        (brK (decide (a0_1≤(8:Int)))
          (brK (a0_2 == (1:Int))
            (some (D.bool true))
            (brK (a0_2 == (2:Int))
              (some (D.bool true))
              (some (D.bool (a0_2 == (4:Int))))))
          (some (D.bool false)))
        (some (D.bool false)))
      (brK (a0_0 == (6:Int))
        (brK (decide (a0_1≥(4:Int)))
          (brK (decide (a0_1≤(8:Int)))
            (brK (a0_2 == (1:Int))
              (some (D.bool true))
              (brK (a0_2 == (2:Int))
                (some (D.bool true))
                (some (D.bool (a0_2 == (4:Int))))))
            (some (D.bool false)))
          (some (D.bool false)))
        (some (D.bool false))))
    (brK (a0_0 == (5:Int))
      (brK (decide (a0_1≥(3:Int)))
        (brK (decide (a0_1≤(8:Int)))
          (brK (a0_2 == (1:Int))
            (some (D.bool true))
            (brK (a0_2 == (2:Int))
              (some (D.bool true))
              (some (D.bool (a0_2 == (4:Int))))))
          (some (D.bool false)))
        (some (D.bool false)))
      (brK (a0_0 == (6:Int))
        (brK (decide (a0_1≥(3:Int)))
          (brK (decide (a0_1≤(8:Int)))
            (brK (a0_2 == (1:Int))
              (some (D.bool true))
              (brK (a0_2 == (2:Int))
                (some (D.bool true))
                (some (D.bool (a0_2 == (4:Int))))))
            (some (D.bool false)))
          (some (D.bool false)))
        (some (D.bool false))))
theorem zlP (a0_0:Int) (a0_1:Int) (a0_2:Int):denP Try.prog (zaz []) zfC [0] ID.wattleref01_Check [.agg [.int .i64 a0_0,.int .i64 a0_1,.int .i64 a0_2]]=zep a0_0 a0_1 a0_2:=by kernel_rfl
theorem zi0 (a0_0:Int) (a0_1:Int) (a0_2:Int):zaf [.agg [.int .i64 a0_0,.int .i64 a0_1,.int .i64 a0_2]]=zep a0_0 a0_1 a0_2:=zlP a0_0 a0_1 a0_2
def zgy:Ann:={ loops:=[] }
noncomputable def zbt:List D→Option D:=denP Try.prog (zaz [(ID.wattleplay_Geom,(.pure [0] zbs)),(ID.wattleref01_Check,(.pure [0] zaf))]) zgy [0] ID.wattleplay_Good
theorem zjL:za4 Try.prog ID.wattleplay_Good (.pure [0] zbt):=zas (zaB [zkS,zcJ]) zbB ⟨Try.f15,by kernel_rfl,by kernel_rfl,by kernel_rfl⟩
noncomputable def zkU:Fact Try.prog:=⟨ID.wattleplay_Good,(.pure [0] zbt),zjL⟩
noncomputable def zfg (zbs:List D→Option D) (zaf:List D→Option D) (a0:Int):Option D:=
  zat (zbs [D.int IntKind.i64 a0]) fun r1=>
  asAgg r1 fun cs2=>
  zay ([Lf.int IntKind.i64,Lf.int IntKind.i64,Lf.int IntKind.i64]) cs2 fun c3=>
  zat (zaf [D.agg [D.int IntKind.i64 c3.fst,D.int IntKind.i64 c3.snd.fst,D.int IntKind.i64 c3.snd.snd.fst]]) fun r4=>
  asB r4 fun b5=>
  brK (!b5)
    (some (D.agg [D.int IntKind.i64 (5:Int),D.int IntKind.i64 (3:Int),D.int IntKind.i64 (1:Int)]))
    (some (D.agg [D.int IntKind.i64 c3.fst,D.int IntKind.i64 c3.snd.fst,D.int IntKind.i64 c3.snd.snd.fst]))
theorem znK (zbs:List D→Option D) (zaf:List D→Option D) (a0:Int):denP Try.prog (zaz [(ID.wattleplay_Geom,(.pure [0] zbs)),(ID.wattleref01_Check,(.pure [0] zaf))]) zgy [0] ID.wattleplay_Good [.int .i64 a0]=zfg zbs zaf a0:=by kernel_rfl
theorem zkV (a0:Int):zbt [.int .i64 a0]=zfg zbs zaf a0:=znK zbs zaf a0
def zoz:Ann:={ loops:=[],pubs:=[(1,[(0,119,7649)])],ks:=[(7649,true)] }
noncomputable def zcP:List D→List Tb→Option Ans:=denS Try.prog (zaz []) zoz [0] ID.disk_New
theorem zqL:za4 Try.prog ID.disk_New (.st [] [0] [(7649,true)] zcP):=zbi (zaB []) zbB ⟨Try.f80,by kernel_rfl,by kernel_rfl,by kernel_rfl⟩
noncomputable def zsY:Fact Try.prog:=⟨ID.disk_New,(.st [] [0] [(7649,true)] zcP),zqL⟩
noncomputable def znL (T0:Tb):Option Ans:=
  letT (T0++[List.map D.own0 (List.reverse ([D.bool false,D.sl Tag.nil []]++List.replicate 1664 (D.int IntKind.u8 (0:Int))))]) fun U1=>
  some (Ans.mk (D.h (7649:Nat) (List.length T0) (0:Nat)) [] [U1])
theorem zxM (T0:Tb):denS Try.prog (zaz []) zoz [0] ID.disk_New [] [T0]=znL T0:=by kernel_rfl
theorem zsZ (T0:Tb):zcP [] [T0]=znL T0:=zxM T0
def zmM:Ann:={ loops:=[(1,[.dead,.dead,.dead,.dead,.val (.cell (.hnd (3840:Nat))),.dead,.dead,.dead,.dead,.dead,.dead,.dead,.dead,.dead,.val (.cell (.int .i64)),.val (.cell (.int .i64))])],pubs:=[(3,[(4,63,3840)])],ks:=[(3840,true),(7649,true)] }
noncomputable def zbp:List D→List Tb→Option Ans:=denS Try.prog (zaz [(ID.disk_New,(.st [] [0] [(7649,true)] zcP))]) zmM [0,0] ID.bench_New
theorem zqa:za4 Try.prog ID.bench_New (.st [] [0,0] [(3840,true),(7649,true)] zbp):=zbi (zaB [zsY]) zbB ⟨Try.f35,by kernel_rfl,by kernel_rfl,by kernel_rfl⟩
noncomputable def zlp:Fact Try.prog:=⟨ID.bench_New,(.st [] [0,0] [(3840,true),(7649,true)] zbp),zqa⟩
noncomputable def zlQ (zcP:List D→List Tb→Option Ans) (a0:Int) (T0:Tb) (T1:Tb):Option Ans:=
  brK (decide (a0 < (1:Int)))
    (some (Ans.mk (D.tup [D.nilp,D.int IntKind.i64 (1:Int)]) [] [T0,T1]))
    (brK (decide (a0 > (8:Int)))
      (some (Ans.mk (D.tup [D.nilp,D.int IntKind.i64 (1:Int)]) [] [T0,T1]))
      (letT (T0++[[D.own0 (D.int IntKind.i64 (0:Int)),D.own0 (D.int IntKind.i64 (-1:Int)),D.own0 (D.bool false),D.own0 (D.sl Tag.nil [])]]) fun U1=>
      zcc (α:=(Nat×Int×Int×PUnit)×List (List D)×List (List D)×PUnit) (fun again2 ((x3,(i4,(i5,_))),(U6,(U7,_)))=>
        brK (decide (i5 < i4))
          (getK U6 x3 fun d8=>
          getK d8 ((3:Nat)) fun d9=>
          za9 d9 fun l10=>
          zat (zcP [] [U7]) fun r11=>
          nilK r11.outs <|
          zee r11.tbs fun c12 q13=>
          nilK q13 <|
          sif (ziN r11.r=true) <|
          sif (zdZ (1:Nat) [r11.r]=true) <|
          getK U6 x3 fun d14=>
          getK d14 ((3:Nat)) fun d15=>
          za9 d15 fun l16=>
          sif (List.length l10+(1:Nat)≤(4294967296:Nat)) <|
          sif (zdZ (1:Nat) [r11.r]=true) <|
          sif (List.length l10=List.length l16) <|
          letT (setT U6 x3 (3:Nat) D.undef) fun U17=>
          getK U17 x3 fun d18=>
          sif ((4:Nat)≤List.length d18) <|
          sif (List.length l10+(1:Nat)=List.length (l16++[r11.r])) <|
          sif (zc2 (l16++[r11.r])=true) <|
          sif (zfz (1:Nat) (l16++[r11.r])=true) <|
          letT (zaU U17 x3 (3:Nat) [D.sl Tag.own (l16++[r11.r])]) fun U19=>
          letN (IntKind.wrap IntKind.i64 (i5+(1:Int))) fun n20=>
          again2 (((x3,i4,n20,PUnit.unit),U19,c12,PUnit.unit)))
          (some (Ans.mk (D.tup [D.h (3840) x3 (0:Nat),D.int IntKind.i64 (0:Int)]) [] [U6,U7])))
        (((List.length T0,a0,(0:Int),PUnit.unit),U1,T1,PUnit.unit))))
theorem zvP (zcP:List D→List Tb→Option Ans) (a0:Int) (T0:Tb) (T1:Tb):denS Try.prog (zaz [(ID.disk_New,(.st [] [0] [(7649,true)] zcP))]) zmM [0,0] ID.bench_New [.int .i64 a0] [T0,T1]=zlQ zcP a0 T0 T1:=by kernel_rfl
theorem zqM (a0:Int) (T0:Tb) (T1:Tb):zbp [.int .i64 a0] [T0,T1]=zlQ zcP a0 T0 T1:=zvP zcP a0 T0 T1
def ze3:Ann:={ loops:=[] }
noncomputable def zaA:List D→Option D:=denP Try.prog (zaz [(ID.wattleref01_Check,(.pure [0] zaf))]) ze3 [0] ID.wattleref01_Budget
theorem zhM:za4 Try.prog ID.wattleref01_Budget (.pure [0] zaA):=zas (zaB [zcJ]) zbB ⟨Try.f76,by kernel_rfl,by kernel_rfl,by kernel_rfl⟩
noncomputable def zeL:Fact Try.prog:=⟨ID.wattleref01_Budget,(.pure [0] zaA),zhM⟩
noncomputable def zd1 (zaf:List D→Option D) (a0_0:Int) (a0_1:Int) (a0_2:Int):Option D:=
  zat (zaf [D.agg [D.int IntKind.i64 a0_0,D.int IntKind.i64 a0_1,D.int IntKind.i64 a0_2]]) fun r1=>
  asB r1 fun b2=>
  brK (!b2)
    (some (D.int IntKind.i64 (0:Int)))
    (letN (IntKind.wrap IntKind.i64 (a0_0 - (4:Int))) fun n3=>
    some (D.int IntKind.i64 n3))
theorem zkW (zaf:List D→Option D) (a0_0:Int) (a0_1:Int) (a0_2:Int):denP Try.prog (zaz [(ID.wattleref01_Check,(.pure [0] zaf))]) ze3 [0] ID.wattleref01_Budget [.agg [.int .i64 a0_0,.int .i64 a0_1,.int .i64 a0_2]]=zd1 zaf a0_0 a0_1 a0_2:=by kernel_rfl
theorem zim (a0_0:Int) (a0_1:Int) (a0_2:Int):zaA [.agg [.int .i64 a0_0,.int .i64 a0_1,.int .i64 a0_2]]=zd1 zaf a0_0 a0_1 a0_2:=zkW zaf a0_0 a0_1 a0_2
def zfD:Ann:={ loops:=[] }
noncomputable def zac:List D→Option D:=denP Try.prog (zaz [(ID.wattleref01_Check,(.pure [0] zaf)),(ID.wattleref01_Budget,(.pure [0] zaA))]) zfD [0] ID.wattleref01_Width
theorem zin:za4 Try.prog ID.wattleref01_Width (.pure [0] zac):=zas (zaB [zcJ,zeL]) zbB ⟨Try.f32,by kernel_rfl,by kernel_rfl,by kernel_rfl⟩
noncomputable def zcg:Fact Try.prog:=⟨ID.wattleref01_Width,(.pure [0] zac),zin⟩
noncomputable def zeq (zaf:List D→Option D) (zaA:List D→Option D) (a0_0:Int) (a0_1:Int) (a0_2:Int):Option D:=
  zat (zaf [D.agg [D.int IntKind.i64 a0_0,D.int IntKind.i64 a0_1,D.int IntKind.i64 a0_2]]) fun r1=>
  asB r1 fun b2=>
  brK (!b2)
    (some (D.int IntKind.i64 (0:Int)))
    (zat (zaA [D.agg [D.int IntKind.i64 a0_0,D.int IntKind.i64 a0_1,D.int IntKind.i64 a0_2]]) fun r3=>
    asI IntKind.i64 r3 fun i4=>
    letN (IntKind.wrap IntKind.i64 (a0_1 - i4)) fun n5=>
    some (D.int IntKind.i64 n5))
theorem zlR (zaf:List D→Option D) (zaA:List D→Option D) (a0_0:Int) (a0_1:Int) (a0_2:Int):denP Try.prog (zaz [(ID.wattleref01_Check,(.pure [0] zaf)),(ID.wattleref01_Budget,(.pure [0] zaA))]) zfD [0] ID.wattleref01_Width [.agg [.int .i64 a0_0,.int .i64 a0_1,.int .i64 a0_2]]=zeq zaf zaA a0_0 a0_1 a0_2:=by kernel_rfl
theorem zi1 (a0_0:Int) (a0_1:Int) (a0_2:Int):zac [.agg [.int .i64 a0_0,.int .i64 a0_1,.int .i64 a0_2]]=zeq zaf zaA a0_0 a0_1 a0_2:=zlR zaf zaA a0_0 a0_1 a0_2
def zfE:Ann:={ loops:=[(1,[.val (.cell (.int .i64)),.dead,.dead,.own 1,.dead,.dead,.dead,.dead,.dead,.dead,.dead,.val (.cell (.int .i64)),.val (.cell (.int .i64))])] }
noncomputable def za5:List D→Option D:=denP Try.prog (zaz [(ID.wattlekeep_Within,(.pure [0] zaa))]) zfE [1] ID.wattleplay_Sector
theorem zio:za4 Try.prog ID.wattleplay_Sector (.pure [1] za5):=zas (zaB [zcI]) zbB ⟨Try.f36,by kernel_rfl,by kernel_rfl,by kernel_rfl⟩
noncomputable def zi2:Fact Try.prog:=⟨ID.wattleplay_Sector,(.pure [1] za5),zio⟩
noncomputable def zer (zaa:List D→Option D) (a0:Int):Option D:=
  zat (zaa [D.int IntKind.i64 a0,D.int IntKind.i64 (11:Int)]) fun r1=>
  asI IntKind.i64 r1 fun i2=>
  brK (i2 == (10:Int))
    (some (D.sl Tag.own [D.int IntKind.u8 (0:Int),D.int IntKind.u8 (0:Int),D.int IntKind.u8 (0:Int),D.int IntKind.u8 (0:Int),D.int IntKind.u8 (0:Int),D.int IntKind.u8 (0:Int),D.int IntKind.u8 (0:Int),D.int IntKind.u8 (0:Int),D.int IntKind.u8 (0:Int),D.int IntKind.u8 (0:Int),D.int IntKind.u8 (0:Int),D.int IntKind.u8 (0:Int),D.int IntKind.u8 (0:Int),D.int IntKind.u8 (0:Int),D.int IntKind.u8 (0:Int),D.int IntKind.u8 (0:Int),D.int IntKind.u8 (0:Int),D.int IntKind.u8 (0:Int),D.int IntKind.u8 (0:Int),D.int IntKind.u8 (0:Int),D.int IntKind.u8 (0:Int),D.int IntKind.u8 (0:Int),D.int IntKind.u8 (0:Int),D.int IntKind.u8 (0:Int),D.int IntKind.u8 (0:Int),D.int IntKind.u8 (0:Int),D.int IntKind.u8 (0:Int),D.int IntKind.u8 (0:Int),D.int IntKind.u8 (0:Int),D.int IntKind.u8 (0:Int),D.int IntKind.u8 (0:Int),D.int IntKind.u8 (0:Int)]))
    (zcc (α:=(Int×List D×Int×Int×PUnit)×PUnit) (fun again3 ((i4,(l5,(i6,(i7,_)))),_)=>
      brK (decide (i7 < i6))
        (letN (IntKind.wrap IntKind.i64 (Int.tdiv i4 (7:Int))) fun n8=>
        letN (bits BinOp.or IntKind.i64 n8 (1:Int)) fun n9=>
        letN (IntKind.wrap IntKind.i64 (i7*n9)) fun n10=>
        letN (IntKind.wrap IntKind.i64 (i4+n10)) fun n11=>
        letN (IntKind.wrap IntKind.u8 n11) fun n12=>
        sif ((0:Int)≤i7) <|
        sif (Int.toNat i7 < List.length l5) <|
        getK l5 ((0:Nat)+Int.toNat i7) fun d13=>
        sif (D.isAgg d13=false) <|
        letN (IntKind.wrap IntKind.i64 (i7+(1:Int))) fun n14=>
        sif (List.length l5=List.length (List.set l5 ((0:Nat)+Int.toNat i7) (D.int IntKind.u8 n12))) <|
        again3 (((i4,List.set l5 ((0:Nat)+Int.toNat i7) (D.int IntKind.u8 n12),i6,n14,PUnit.unit),PUnit.unit)))
        (sif (List.length l5=List.length l5) <|
        sif (List.all l5 D.free=true) <|
        some (D.sl Tag.own l5)))
      (((a0,[D.int IntKind.u8 (0:Int),D.int IntKind.u8 (0:Int),D.int IntKind.u8 (0:Int),D.int IntKind.u8 (0:Int),D.int IntKind.u8 (0:Int),D.int IntKind.u8 (0:Int),D.int IntKind.u8 (0:Int),D.int IntKind.u8 (0:Int),D.int IntKind.u8 (0:Int),D.int IntKind.u8 (0:Int),D.int IntKind.u8 (0:Int),D.int IntKind.u8 (0:Int),D.int IntKind.u8 (0:Int),D.int IntKind.u8 (0:Int),D.int IntKind.u8 (0:Int),D.int IntKind.u8 (0:Int),D.int IntKind.u8 (0:Int),D.int IntKind.u8 (0:Int),D.int IntKind.u8 (0:Int),D.int IntKind.u8 (0:Int),D.int IntKind.u8 (0:Int),D.int IntKind.u8 (0:Int),D.int IntKind.u8 (0:Int),D.int IntKind.u8 (0:Int),D.int IntKind.u8 (0:Int),D.int IntKind.u8 (0:Int),D.int IntKind.u8 (0:Int),D.int IntKind.u8 (0:Int),D.int IntKind.u8 (0:Int),D.int IntKind.u8 (0:Int),D.int IntKind.u8 (0:Int),D.int IntKind.u8 (0:Int)],(32:Int),(0:Int),PUnit.unit),PUnit.unit)))
theorem zlS (zaa:List D→Option D) (a0:Int):denP Try.prog (zaz [(ID.wattlekeep_Within,(.pure [0] zaa))]) zfE [1] ID.wattleplay_Sector [.int .i64 a0]=zer zaa a0:=by kernel_rfl
theorem zi3 (a0:Int):za5 [.int .i64 a0]=zer zaa a0:=zlS zaa a0
def ze4:Ann:={ loops:=[(0,[.val (.cell .lent),.val (.cell (.int .i64)),.dead,.dead,.dead,.own 1,.val (.cell (.int .i64))])] }
noncomputable def zaj:List D→Option D:=denP Try.prog (zaz [(ID.wattleplay_Sector,(.pure [1] za5))]) ze4 [1] ID.wattleplay_Sectors
theorem zhN:za4 Try.prog ID.wattleplay_Sectors (.pure [1] zaj):=zas (zaB [zi2]) zbB ⟨Try.f31,by kernel_rfl,by kernel_rfl,by kernel_rfl⟩
noncomputable def zde:Fact Try.prog:=⟨ID.wattleplay_Sectors,(.pure [1] zaj),zhN⟩
noncomputable def zd2 (za5:List D→Option D) (a0:List D) (a1:Int):Option D:=
  zcc (α:=(List D×Int×List D×Int×PUnit)×PUnit) (fun again1 ((l2,(i3,(l4,(i5,_)))),_)=>
    brK (decide (i5 < i3))
      (letN (IntKind.wrap IntKind.i64 ((3:Int)*i5)) fun n6=>
      brK (decide (i5 < (↑(List.length l2):Int)))
        (sif ((0:Int)≤i5) <|
        getK l2 (Int.toNat i5) fun d7=>
        asI IntKind.i64 d7 fun i8=>
        zat (za5 [D.int IntKind.i64 i8]) fun r9=>
        za9 r9 fun l10=>
        sif ((0:Nat)+List.length l10≤List.length l10) <|
        sif (List.length l4+(1:Nat)≤(4294967296:Nat)) <|
        sif (List.length l4=List.length l4) <|
        letN (IntKind.wrap IntKind.i64 (i5+(1:Int))) fun n11=>
        sif (List.length l4+(1:Nat)=List.length (l4++[D.sl Tag.fresh (cut (0:Nat) (List.length l10) l10)])) <|
        again1 (((l2,i3,l4++[D.sl Tag.fresh (cut (0:Nat) (List.length l10) l10)],n11,PUnit.unit),PUnit.unit)))
        (zat (za5 [D.int IntKind.i64 n6]) fun r12=>
        za9 r12 fun l13=>
        sif ((0:Nat)+List.length l13≤List.length l13) <|
        sif (List.length l4+(1:Nat)≤(4294967296:Nat)) <|
        sif (List.length l4=List.length l4) <|
        letN (IntKind.wrap IntKind.i64 (i5+(1:Int))) fun n14=>
        sif (List.length l4+(1:Nat)=List.length (l4++[D.sl Tag.fresh (cut (0:Nat) (List.length l13) l13)])) <|
        again1 (((l2,i3,l4++[D.sl Tag.fresh (cut (0:Nat) (List.length l13) l13)],n14,PUnit.unit),PUnit.unit))))
      (sif (List.length l4=List.length l4) <|
      sif (List.all l4 D.free=true) <|
      some (D.sl Tag.own l4)))
    (((a0,a1,[],(0:Int),PUnit.unit),PUnit.unit))
theorem zkX (za5:List D→Option D) (tga0:Tag) (a0:List D) (a1:Int):denP Try.prog (zaz [(ID.wattleplay_Sector,(.pure [1] za5))]) ze4 [1] ID.wattleplay_Sectors [.sl tga0 a0,.int .i64 a1]=zd2 za5 (D.lentL a0) a1:=by kernel_rfl
theorem ziq (tga0:Tag) (a0:List D) (a1:Int):zaj [.sl tga0 a0,.int .i64 a1]=zd2 za5 (D.lentL a0) a1:=zkX za5 tga0 a0 a1
def zfR:Ann:={ loops:=[] }
noncomputable def zap:List D→Option D:=denP Try.prog (zaz [(ID.wattleref01_Check,(.pure [0] zaf))]) zfR [0] ID.wattleref01_fine
theorem zi4:za4 Try.prog ID.wattleref01_fine (.pure [0] zap):=zas (zaB [zcJ]) zbB ⟨Try.f75,by kernel_rfl,by kernel_rfl,by kernel_rfl⟩
noncomputable def zdH:Fact Try.prog:=⟨ID.wattleref01_fine,(.pure [0] zap),zi4⟩
noncomputable def zeM (zaf:List D→Option D) (a0_0:Int) (a0_1:Int) (a0_2:Int) (a1:Int):Option D:=
  zat (zaf [D.agg [D.int IntKind.i64 a0_0,D.int IntKind.i64 a0_1,D.int IntKind.i64 a0_2]]) fun r1=>
  asB r1 fun b2=>
  brK b2
    (brK (decide (a1≥(0:Int)))
      (some (D.bool (decide (a1 < (16:Int)))))
      (some (D.bool false)))
    (some (D.bool false))
theorem zmN (zaf:List D→Option D) (a0_0:Int) (a0_1:Int) (a0_2:Int) (a1:Int):denP Try.prog (zaz [(ID.wattleref01_Check,(.pure [0] zaf))]) zfR [0] ID.wattleref01_fine [.agg [.int .i64 a0_0,.int .i64 a0_1,.int .i64 a0_2],.int .i64 a1]=zeM zaf a0_0 a0_1 a0_2 a1:=by kernel_rfl
theorem zjM (a0_0:Int) (a0_1:Int) (a0_2:Int) (a1:Int):zap [.agg [.int .i64 a0_0,.int .i64 a0_1,.int .i64 a0_2],.int .i64 a1]=zeM zaf a0_0 a0_1 a0_2 a1:=zmN zaf a0_0 a0_1 a0_2 a1
def ze5:Ann:={ loops:=[] }
noncomputable def zax:List D→Option D:=denP Try.prog (zaz [(ID.wattleref01_fine,(.pure [0] zap))]) ze5 [0,0] ID.wattleref01_Parity
theorem zhO:za4 Try.prog ID.wattleref01_Parity (.pure [0,0] zax):=zas (zaB [zdH]) zbB ⟨Try.f46,by kernel_rfl,by kernel_rfl,by kernel_rfl⟩
noncomputable def zeN:Fact Try.prog:=⟨ID.wattleref01_Parity,(.pure [0,0] zax),zhO⟩
noncomputable def zd3 (zap:List D→Option D) (a0_0:Int) (a0_1:Int) (a0_2:Int) (a1:Int):Option D:=
  zat (zap [D.agg [D.int IntKind.i64 a0_0,D.int IntKind.i64 a0_1,D.int IntKind.i64 a0_2],D.int IntKind.i64 a1]) fun r1=>
  asB r1 fun b2=>
  brK (!b2)
    (some (D.tup [D.int IntKind.i64 (-1:Int),D.int IntKind.i64 (-1:Int)]))
    (letN (IntKind.wrap IntKind.i64 (a0_1 - (1:Int))) fun n3=>
    sif (a0_2≠(0:Int)) <|
    letN (IntKind.wrap IntKind.i64 (Int.tdiv a1 a0_2)) fun n4=>
    sif (a0_1≠(0:Int)) <|
    letN (Int.tmod n4 a0_1) fun n5=>
    letN (IntKind.wrap IntKind.i64 (n3 - n5)) fun n6=>
    brK (a0_0 == (5:Int))
      (some (D.tup [D.int IntKind.i64 n6,D.int IntKind.i64 (-1:Int)]))
      (letN (IntKind.wrap IntKind.i64 (n6+(1:Int))) fun n7=>
      sif (a0_1≠(0:Int)) <|
      letN (Int.tmod n7 a0_1) fun n8=>
      some (D.tup [D.int IntKind.i64 n6,D.int IntKind.i64 n8])))
theorem zkY (zap:List D→Option D) (a0_0:Int) (a0_1:Int) (a0_2:Int) (a1:Int):denP Try.prog (zaz [(ID.wattleref01_fine,(.pure [0] zap))]) ze5 [0,0] ID.wattleref01_Parity [.agg [.int .i64 a0_0,.int .i64 a0_1,.int .i64 a0_2],.int .i64 a1]=zd3 zap a0_0 a0_1 a0_2 a1:=by kernel_rfl
theorem zir (a0_0:Int) (a0_1:Int) (a0_2:Int) (a1:Int):zax [.agg [.int .i64 a0_0,.int .i64 a0_1,.int .i64 a0_2],.int .i64 a1]=zd3 zap a0_0 a0_1 a0_2 a1:=zkY zap a0_0 a0_1 a0_2 a1
def zfS:Ann:={ loops:=[] }
noncomputable def zbb:List D→Option D:=denP Try.prog (zaz [(ID.wattleref01_fine,(.pure [0] zap)),(ID.wattleref01_Width,(.pure [0] zac)),(ID.wattleref01_Parity,(.pure [0,0] zax)),(ID.wattleref01_Budget,(.pure [0] zaA))]) zfS [0] ID.wattleref01_Disk
theorem zi5:za4 Try.prog ID.wattleref01_Disk (.pure [0] zbb):=zas (zaB [zdH,zcg,zeN,zeL]) zbB ⟨Try.f74,by kernel_rfl,by kernel_rfl,by kernel_rfl⟩
noncomputable def zjN:Fact Try.prog:=⟨ID.wattleref01_Disk,(.pure [0] zbb),zi5⟩
noncomputable def zeO (zap:List D→Option D) (zac:List D→Option D) (zax:List D→Option D) (zaA:List D→Option D) (a0_0:Int) (a0_1:Int) (a0_2:Int) (a1:Int) (a2:Int):Option D:=
  zat (zap [D.agg [D.int IntKind.i64 a0_0,D.int IntKind.i64 a0_1,D.int IntKind.i64 a0_2],D.int IntKind.i64 a1]) fun r1=>
  asB r1 fun b2=>
  brK (!b2)
    (some (D.int IntKind.i64 (-1:Int)))
    (brK (decide (a2 < (0:Int)))
      (some (D.int IntKind.i64 (-1:Int)))
      (zat (zac [D.agg [D.int IntKind.i64 a0_0,D.int IntKind.i64 a0_1,D.int IntKind.i64 a0_2]]) fun r3=>
      asI IntKind.i64 r3 fun i4=>
      brK (decide (a2≥i4))
        (some (D.int IntKind.i64 (-1:Int)))
        (zat (zax [D.agg [D.int IntKind.i64 a0_0,D.int IntKind.i64 a0_1,D.int IntKind.i64 a0_2],D.int IntKind.i64 a1]) fun r5=>
        zed r5 fun ts6=>
        zay ([Lf.any,Lf.any]) ts6 fun c7=>
        asI IntKind.i64 c7.fst fun i8=>
        asI IntKind.i64 c7.snd.fst fun i9=>
        zat (zaA [D.agg [D.int IntKind.i64 a0_0,D.int IntKind.i64 a0_1,D.int IntKind.i64 a0_2]]) fun r10=>
        asI IntKind.i64 r10 fun i11=>
        letN (IntKind.wrap IntKind.i64 (i8+i11)) fun n12=>
        letN (IntKind.wrap IntKind.i64 (n12+a2)) fun n13=>
        sif (a0_1≠(0:Int)) <|
        letN (Int.tmod n13 a0_1) fun n14=>
        some (D.int IntKind.i64 n14))))
theorem zmO (zap:List D→Option D) (zac:List D→Option D) (zax:List D→Option D) (zaA:List D→Option D) (a0_0:Int) (a0_1:Int) (a0_2:Int) (a1:Int) (a2:Int):denP Try.prog (zaz [(ID.wattleref01_fine,(.pure [0] zap)),(ID.wattleref01_Width,(.pure [0] zac)),(ID.wattleref01_Parity,(.pure [0,0] zax)),(ID.wattleref01_Budget,(.pure [0] zaA))]) zfS [0] ID.wattleref01_Disk [.agg [.int .i64 a0_0,.int .i64 a0_1,.int .i64 a0_2],.int .i64 a1,.int .i64 a2]=zeO zap zac zax zaA a0_0 a0_1 a0_2 a1 a2:=by kernel_rfl
theorem zjO (a0_0:Int) (a0_1:Int) (a0_2:Int) (a1:Int) (a2:Int):zbb [.agg [.int .i64 a0_0,.int .i64 a0_1,.int .i64 a0_2],.int .i64 a1,.int .i64 a2]=zeO zap zac zax zaA a0_0 a0_1 a0_2 a1 a2:=zmO zap zac zax zaA a0_0 a0_1 a0_2 a1 a2
def zfF:Ann:={ loops:=[(0,[.val (.cell .lent),.dead,.dead,.dead,.dead,.val (.cell .lent),.val (.cell (.int .i64)),.val (.cell (.int .i64))])] }
noncomputable def zaE:List D→Option D:=denP Try.prog (zaz []) zfF [0] ID.wattleref01_alike
theorem zis:za4 Try.prog ID.wattleref01_alike (.pure [0] zaE):=zas (zaB []) zbB ⟨Try.f115,by kernel_rfl,by kernel_rfl,by kernel_rfl⟩
noncomputable def ze6:Fact Try.prog:=⟨ID.wattleref01_alike,(.pure [0] zaE),zis⟩
noncomputable def zes (a0:List D):Option D:=
  zcc (α:=(List D×List D×Int×Int×PUnit)×PUnit) (fun again1 ((l2,(l3,(i4,(i5,_)))),_)=>
    brK (decide (i5 < i4))
      (sif ((0:Int)≤i5) <|
      getK l3 (Int.toNat i5) fun d6=>
      asSl d6 fun t7 l8=>
      getK l2 ((0:Nat)) fun d9=>
      asSl d9 fun t10 l11=>
      brK ((↑(List.length l8):Int) != (↑(List.length l11):Int))
        (some (D.bool false))
        (letN (IntKind.wrap IntKind.i64 (i5+(1:Int))) fun n12=>
        again1 (((l2,l3,i4,n12,PUnit.unit),PUnit.unit))))
      (some (D.bool (decide ((↑(List.length l2):Int) > (0:Int))))))
    (((a0,a0,(↑(List.length a0):Int),(0:Int),PUnit.unit),PUnit.unit))
theorem zlT (tga0:Tag) (a0:List D):denP Try.prog (zaz []) zfF [0] ID.wattleref01_alike [.sl tga0 a0]=zes (D.lentL a0):=by kernel_rfl
theorem zi6 (tga0:Tag) (a0:List D):zaE [.sl tga0 a0]=zes (D.lentL a0):=zlT tga0 a0
def zhP:Ann:={ loops:=[(1,[.dead,.dead,.dead,.own 1,.dead,.dead,.dead,.dead,.dead,.dead,.dead,.dead,.dead,.dead,.dead,.dead,.val (.cell .lent),.val (.cell (.int .i64)),.val (.cell (.int .i64))]),(3,[.dead,.dead,.dead,.own 1,.dead,.dead,.dead,.dead,.dead,.dead,.dead,.dead,.dead,.dead,.dead,.dead,.val (.cell .lent),.val (.cell (.int .i64)),.val (.cell (.int .i64)),.dead,.dead,.dead,.val (.cell .sl),.val (.cell (.int .i64)),.val (.cell (.int .i64))])] }
noncomputable def zbH:List D→Option D:=denP Try.prog (zaz [(ID.wattleref01_alike,(.pure [0] zaE))]) zhP [1] ID.wattleref01_P
theorem zlU:za4 Try.prog ID.wattleref01_P (.pure [1] zbH):=zas (zaB [ze6]) zbB ⟨Try.f81,by kernel_rfl,by kernel_rfl,by kernel_rfl⟩
noncomputable def zmP:Fact Try.prog:=⟨ID.wattleref01_P,(.pure [1] zbH),zlU⟩
noncomputable def zgz (zaE:List D→Option D) (a0:List D):Option D:=
  zat (zaE [D.sl Tag.lent a0]) fun r1=>
  asB r1 fun b2=>
  brK (!b2)
    (some (D.sl Tag.own []))
    (getK a0 ((0:Nat)) fun d3=>
    asSl d3 fun t4 l5=>
    sif ((↑(List.length l5):Int)=(↑(List.length l5):Int)) <|
    sif ((↑(List.length l5):Int)*(1:Int)≤(140737488355328:Int)) <|
    sif ((↑(List.length l5):Int)≤(140737488355328:Int)) <|
    sif (Int.toNat (↑(List.length l5):Int)=List.length (List.replicate (Int.toNat (↑(List.length l5):Int)) (D.int IntKind.u8 (0:Int)))) <|
    zcc (α:=(List D×List D×Int×Int×PUnit)×PUnit) (fun again6 ((l7,(l8,(i9,(i10,_)))),_)=>
      brK (decide (i10 < i9))
        (sif ((0:Int)≤i10) <|
        getK l8 (Int.toNat i10) fun d11=>
        asSl d11 fun t12 l13=>
        sif (List.length l7=List.length l7) <|
        zcc (α:=(List D×List D×Int×Int×(Tag×List D)×Int×Int×PUnit)×PUnit) (fun again14 ((l15,(l16,(i17,(i18,((t19,l20),(i21,(i22,_))))))),_)=>
          brK (decide (i22 < i21))
            (sif ((0:Int)≤i22) <|
            getK l20 (Int.toNat i22) fun d23=>
            asI IntKind.u8 d23 fun i24=>
            sif ((0:Int)≤i22) <|
            sif (Int.toNat i22 < List.length l15) <|
            getK l15 ((0:Nat)+Int.toNat i22) fun d25=>
            asI IntKind.u8 d25 fun i26=>
            letN (bits BinOp.xor IntKind.u8 i26 i24) fun n27=>
            sif ((0:Int)≤i22) <|
            sif (Int.toNat i22 < List.length l15) <|
            getK l15 ((0:Nat)+Int.toNat i22) fun d28=>
            sif (D.isAgg d28=false) <|
            letN (IntKind.wrap IntKind.i64 (i22+(1:Int))) fun n29=>
            sif (List.length l15=List.length (List.set l15 ((0:Nat)+Int.toNat i22) (D.int IntKind.u8 n27))) <|
            again14 (((List.set l15 ((0:Nat)+Int.toNat i22) (D.int IntKind.u8 n27),l16,i17,i18,(t19,l20),i21,n29,PUnit.unit),PUnit.unit)))
            (letN (IntKind.wrap IntKind.i64 (i18+(1:Int))) fun n30=>
            sif (List.length l15=List.length l15) <|
            again6 (((l15,l16,i17,n30,PUnit.unit),PUnit.unit))))
          (((l7,l8,i9,i10,(t12,l13),(↑(List.length l13):Int),(0:Int),PUnit.unit),PUnit.unit)))
        (sif (List.length l7=List.length l7) <|
        sif (List.all l7 D.free=true) <|
        some (D.sl Tag.own l7)))
      (((List.replicate (Int.toNat (↑(List.length l5):Int)) (D.int IntKind.u8 (0:Int)),a0,(↑(List.length a0):Int),(0:Int),PUnit.unit),PUnit.unit)))
theorem zqb (zaE:List D→Option D) (tga0:Tag) (a0:List D):denP Try.prog (zaz [(ID.wattleref01_alike,(.pure [0] zaE))]) zhP [1] ID.wattleref01_P [.sl tga0 a0]=zgz zaE (D.lentL a0):=by kernel_rfl
theorem zmQ (tga0:Tag) (a0:List D):zbH [.sl tga0 a0]=zgz zaE (D.lentL a0):=zqb zaE tga0 a0
def zgA:Ann:={ loops:=[(0,[.dead,.val (.cell (.int .u8)),.dead,.dead,.dead,.val (.cell (.int .i64)),.val (.cell (.int .i64)),.val (.cell (.int .i64))])] }
noncomputable def zaJ:List D→Option D:=denP Try.prog (zaz []) zgA [0] ID.wattleref01_Mul
theorem zjP:za4 Try.prog ID.wattleref01_Mul (.pure [0] zaJ):=zas (zaB []) zbB ⟨Try.f117,by kernel_rfl,by kernel_rfl,by kernel_rfl⟩
noncomputable def zfT:Fact Try.prog:=⟨ID.wattleref01_Mul,(.pure [0] zaJ),zjP⟩
noncomputable def zfh (a0:Int) (a1:Int):Option D:=
  letN (IntKind.wrap IntKind.i64 a0) fun n1=>
  zcc (α:=(Int×Int×Int×Int×PUnit)×PUnit) (fun again2 ((i3,(i4,(i5,(i6,_)))),_)=>
    brK (decide (i6 < (8:Int)))
      (letN (IntKind.wrap IntKind.u64 i6) fun n7=>
      sif ((0:Int)≤n7) <|
      letN (Int.fdiv i3 ((2:Int) ^ min (Int.toNat n7) (8:Nat))) fun n8=>
      letN (bits BinOp.and IntKind.u8 n8 (1:Int)) fun n9=>
      brK (n9 == (1:Int))
        (letN (bits BinOp.xor IntKind.i64 i5 i4) fun n10=>
        letN (IntKind.wrap IntKind.i64 (i4*(2:Int))) fun n11=>
        brK (decide (n11 > (255:Int)))
          (letN (bits BinOp.xor IntKind.i64 n11 (285:Int)) fun n12=>
          letN (IntKind.wrap IntKind.i64 (i6+(1:Int))) fun n13=>
          again2 (((i3,n12,n10,n13,PUnit.unit),PUnit.unit)))
          (letN (IntKind.wrap IntKind.i64 (i6+(1:Int))) fun n14=>
          again2 (((i3,n11,n10,n14,PUnit.unit),PUnit.unit))))
        (letN (IntKind.wrap IntKind.i64 (i4*(2:Int))) fun n15=>
        brK (decide (n15 > (255:Int)))
          (letN (bits BinOp.xor IntKind.i64 n15 (285:Int)) fun n16=>
          letN (IntKind.wrap IntKind.i64 (i6+(1:Int))) fun n17=>
          again2 (((i3,n16,i5,n17,PUnit.unit),PUnit.unit)))
          (letN (IntKind.wrap IntKind.i64 (i6+(1:Int))) fun n18=>
          again2 (((i3,n15,i5,n18,PUnit.unit),PUnit.unit)))))
      (letN (IntKind.wrap IntKind.u8 i5) fun n19=>
      some (D.int IntKind.u8 n19)))
    (((a1,n1,(0:Int),(0:Int),PUnit.unit),PUnit.unit))
theorem znM (a0:Int) (a1:Int):denP Try.prog (zaz []) zgA [0] ID.wattleref01_Mul [.int .u8 a0,.int .u8 a1]=zfh a0 a1:=by kernel_rfl
theorem zkZ (a0:Int) (a1:Int):zaJ [.int .u8 a0,.int .u8 a1]=zfh a0 a1:=znM a0 a1
def zgB:Ann:={ loops:=[(1,[.val (.cell (.int .i64)),.dead,.dead,.val (.cell (.int .u8))])] }
noncomputable def zbu:List D→Option D:=denP Try.prog (zaz [(ID.wattleref01_Mul,(.pure [0] zaJ))]) zgB [0] ID.wattleref01_Pow
theorem zjQ:za4 Try.prog ID.wattleref01_Pow (.pure [0] zbu):=zas (zaB [zfT]) zbB ⟨Try.f116,by kernel_rfl,by kernel_rfl,by kernel_rfl⟩
noncomputable def zk0:Fact Try.prog:=⟨ID.wattleref01_Pow,(.pure [0] zbu),zjQ⟩
noncomputable def zfi (zaJ:List D→Option D) (a0:Int):Option D:=
  letN (Int.tmod a0 (255:Int)) fun n1=>
  brK (decide (n1 < (0:Int)))
    (letN (IntKind.wrap IntKind.i64 (n1+(255:Int))) fun n2=>
    zcc (α:=(Int×Int×PUnit)×PUnit) (fun again3 ((i4,(i5,_)),_)=>
      brK (decide (i4 > (0:Int)))
        (zat (zaJ [D.int IntKind.u8 i5,D.int IntKind.u8 (2:Int)]) fun r6=>
        asI IntKind.u8 r6 fun i7=>
        letN (IntKind.wrap IntKind.i64 (i4 - (1:Int))) fun n8=>
        again3 (((n8,i7,PUnit.unit),PUnit.unit)))
        (some (D.int IntKind.u8 i5)))
      (((n2,(1:Int),PUnit.unit),PUnit.unit)))
    (zcc (α:=(Int×Int×PUnit)×PUnit) (fun again9 ((i10,(i11,_)),_)=>
      brK (decide (i10 > (0:Int)))
        (zat (zaJ [D.int IntKind.u8 i11,D.int IntKind.u8 (2:Int)]) fun r12=>
        asI IntKind.u8 r12 fun i13=>
        letN (IntKind.wrap IntKind.i64 (i10 - (1:Int))) fun n14=>
        again9 (((n14,i13,PUnit.unit),PUnit.unit)))
        (some (D.int IntKind.u8 i11)))
      (((n1,(1:Int),PUnit.unit),PUnit.unit)))
theorem znN (zaJ:List D→Option D) (a0:Int):denP Try.prog (zaz [(ID.wattleref01_Mul,(.pure [0] zaJ))]) zgB [0] ID.wattleref01_Pow [.int .i64 a0]=zfi zaJ a0:=by kernel_rfl
theorem zk1 (a0:Int):zbu [.int .i64 a0]=zfi zaJ a0:=znN zaJ a0
def zhQ:Ann:={ loops:=[(1,[.dead,.dead,.dead,.own 1,.dead,.dead,.dead,.dead,.dead,.dead,.dead,.dead,.dead,.dead,.dead,.dead,.dead,.val (.cell .lent),.val (.cell (.int .i64)),.val (.cell (.int .i64))]),(3,[.dead,.dead,.dead,.own 1,.dead,.dead,.val (.cell (.int .u8)),.dead,.dead,.dead,.dead,.dead,.dead,.dead,.dead,.dead,.dead,.val (.cell .lent),.val (.cell (.int .i64)),.val (.cell (.int .i64)),.dead,.dead,.dead,.dead,.dead,.dead,.val (.cell .sl),.val (.cell (.int .i64)),.val (.cell (.int .i64))])] }
noncomputable def zbI:List D→Option D:=denP Try.prog (zaz [(ID.wattleref01_alike,(.pure [0] zaE)),(ID.wattleref01_Pow,(.pure [0] zbu)),(ID.wattleref01_Mul,(.pure [0] zaJ))]) zhQ [1] ID.wattleref01_Q
theorem zlV:za4 Try.prog ID.wattleref01_Q (.pure [1] zbI):=zas (zaB [ze6,zk0,zfT]) zbB ⟨Try.f82,by kernel_rfl,by kernel_rfl,by kernel_rfl⟩
noncomputable def zmR:Fact Try.prog:=⟨ID.wattleref01_Q,(.pure [1] zbI),zlV⟩
noncomputable def zgC (zaE:List D→Option D) (zbu:List D→Option D) (zaJ:List D→Option D) (a0:List D):Option D:=
  zat (zaE [D.sl Tag.lent a0]) fun r1=>
  asB r1 fun b2=>
  brK (!b2)
    (some (D.sl Tag.own []))
    (getK a0 ((0:Nat)) fun d3=>
    asSl d3 fun t4 l5=>
    sif ((↑(List.length l5):Int)=(↑(List.length l5):Int)) <|
    sif ((↑(List.length l5):Int)*(1:Int)≤(140737488355328:Int)) <|
    sif ((↑(List.length l5):Int)≤(140737488355328:Int)) <|
    sif (Int.toNat (↑(List.length l5):Int)=List.length (List.replicate (Int.toNat (↑(List.length l5):Int)) (D.int IntKind.u8 (0:Int)))) <|
    zcc (α:=(List D×List D×Int×Int×PUnit)×PUnit) (fun again6 ((l7,(l8,(i9,(i10,_)))),_)=>
      brK (decide (i10 < i9))
        (sif ((0:Int)≤i10) <|
        getK l8 (Int.toNat i10) fun d11=>
        asSl d11 fun t12 l13=>
        zat (zbu [D.int IntKind.i64 i10]) fun r14=>
        asI IntKind.u8 r14 fun i15=>
        sif (List.length l7=List.length l7) <|
        zcc (α:=(List D×Int×List D×Int×Int×(Tag×List D)×Int×Int×PUnit)×PUnit) (fun again16 ((l17,(i18,(l19,(i20,(i21,((t22,l23),(i24,(i25,_)))))))),_)=>
          brK (decide (i25 < i24))
            (sif ((0:Int)≤i25) <|
            getK l23 (Int.toNat i25) fun d26=>
            asI IntKind.u8 d26 fun i27=>
            sif ((0:Int)≤i25) <|
            sif (Int.toNat i25 < List.length l17) <|
            getK l17 ((0:Nat)+Int.toNat i25) fun d28=>
            asI IntKind.u8 d28 fun i29=>
            zat (zaJ [D.int IntKind.u8 i27,D.int IntKind.u8 i18]) fun r30=>
            asI IntKind.u8 r30 fun i31=>
            letN (bits BinOp.xor IntKind.u8 i29 i31) fun n32=>
            sif ((0:Int)≤i25) <|
            sif (Int.toNat i25 < List.length l17) <|
            getK l17 ((0:Nat)+Int.toNat i25) fun d33=>
            sif (D.isAgg d33=false) <|
            letN (IntKind.wrap IntKind.i64 (i25+(1:Int))) fun n34=>
            sif (List.length l17=List.length (List.set l17 ((0:Nat)+Int.toNat i25) (D.int IntKind.u8 n32))) <|
            again16 (((List.set l17 ((0:Nat)+Int.toNat i25) (D.int IntKind.u8 n32),i18,l19,i20,i21,(t22,l23),i24,n34,PUnit.unit),PUnit.unit)))
            (letN (IntKind.wrap IntKind.i64 (i21+(1:Int))) fun n35=>
            sif (List.length l17=List.length l17) <|
            again6 (((l17,l19,i20,n35,PUnit.unit),PUnit.unit))))
          (((l7,i15,l8,i9,i10,(t12,l13),(↑(List.length l13):Int),(0:Int),PUnit.unit),PUnit.unit)))
        (sif (List.length l7=List.length l7) <|
        sif (List.all l7 D.free=true) <|
        some (D.sl Tag.own l7)))
      (((List.replicate (Int.toNat (↑(List.length l5):Int)) (D.int IntKind.u8 (0:Int)),a0,(↑(List.length a0):Int),(0:Int),PUnit.unit),PUnit.unit)))
theorem zqc (zaE:List D→Option D) (zbu:List D→Option D) (zaJ:List D→Option D) (tga0:Tag) (a0:List D):denP Try.prog (zaz [(ID.wattleref01_alike,(.pure [0] zaE)),(ID.wattleref01_Pow,(.pure [0] zbu)),(ID.wattleref01_Mul,(.pure [0] zaJ))]) zhQ [1] ID.wattleref01_Q [.sl tga0 a0]=zgC zaE zbu zaJ (D.lentL a0):=by kernel_rfl
theorem zmS (tga0:Tag) (a0:List D):zbI [.sl tga0 a0]=zgC zaE zbu zaJ (D.lentL a0):=zqc zaE zbu zaJ tga0 a0
def zfU:Ann:={ loops:=[(1,[.dead,.val (.cell (.int .i64)),.val (.cell .lent),.box true [(.int .i64),(.int .i64),(.int .i64)],.dead,.dead,.dead,.dead,.own 1,.dead,.dead,.dead,.dead,.dead,.dead,.dead,.dead,.dead,.dead,.dead,.dead,.dead,.dead,.dead,.dead,.dead,.dead,.val (.cell .lent),.val (.cell (.int .i64)),.val (.cell (.int .i64))])] }
noncomputable def zbk:List D→Option D:=denP Try.prog (zaz [(ID.wattleref01_fine,(.pure [0] zap)),(ID.wattleref01_Width,(.pure [0] zac)),(ID.wattleref01_Disk,(.pure [0] zbb)),(ID.wattleref01_Parity,(.pure [0,0] zax)),(ID.wattleref01_P,(.pure [1] zbH)),(ID.wattleref01_Q,(.pure [1] zbI))]) zfU [1,0] ID.wattleref01_Fill
theorem zi7:za4 Try.prog ID.wattleref01_Fill (.pure [1,0] zbk):=zas (zaB [zdH,zcg,zjN,zeN,zmP,zmR]) zbB ⟨Try.f39,by kernel_rfl,by kernel_rfl,by kernel_rfl⟩
noncomputable def zjR:Fact Try.prog:=⟨ID.wattleref01_Fill,(.pure [1,0] zbk),zi7⟩
noncomputable def zeP (zap:List D→Option D) (zac:List D→Option D) (zbb:List D→Option D) (zax:List D→Option D) (zbH:List D→Option D) (zbI:List D→Option D) (a0_0:Int) (a0_1:Int) (a0_2:Int) (a1:Int) (a2:List D):Option D:=
  zat (zap [D.agg [D.int IntKind.i64 a0_0,D.int IntKind.i64 a0_1,D.int IntKind.i64 a0_2],D.int IntKind.i64 a1]) fun r1=>
  asB r1 fun b2=>
  brK (!b2)
    (some (D.tup [D.sl Tag.own [],D.bool false]))
    (zat (zac [D.agg [D.int IntKind.i64 a0_0,D.int IntKind.i64 a0_1,D.int IntKind.i64 a0_2]]) fun r3=>
    asI IntKind.i64 r3 fun i4=>
    brK ((↑(List.length a2):Int) != i4)
      (some (D.tup [D.sl Tag.own [],D.bool false]))
      (sif ((0:Int)≤a0_1) <|
      sif (a0_1=a0_1) <|
      sif (a0_1*(24:Int)≤(140737488355328:Int)) <|
      sif (a0_1≤(140737488355328:Int)) <|
      sif (Int.toNat a0_1=List.length (List.replicate (Int.toNat a0_1) (D.sl Tag.nil []))) <|
      zcc (α:=(Int×List D×(Int×Int×Int×PUnit)×List D×List D×Int×Int×PUnit)×PUnit) (fun again5 ((i6,(l7,((i8,(i9,(i10,_))),(l11,(l12,(i13,(i14,_))))))),_)=>
        brK (decide (i14 < i13))
          (sif ((0:Int)≤i14) <|
          getK l12 (Int.toNat i14) fun d15=>
          asSl d15 fun t16 l17=>
          brK ((↑(List.length l17):Int) != (32:Int))
            (some (D.tup [D.sl Tag.own [],D.bool false]))
            (zat (zbb [D.agg [D.int IntKind.i64 i8,D.int IntKind.i64 i9,D.int IntKind.i64 i10],D.int IntKind.i64 i6,D.int IntKind.i64 i14]) fun r18=>
            asI IntKind.i64 r18 fun i19=>
            sif (List.length l17≤(4294967296:Nat)) <|
            sif (zdZ (1:Nat) l17=true) <|
            sif ((0:Int)≤i19) <|
            sif (Int.toNat i19 < List.length l11) <|
            sif ((0:Nat)+List.length l17≤List.length l17) <|
            getK l11 ((0:Nat)+Int.toNat i19) fun d20=>
            sif ((0:Nat)+List.length l17≤List.length l17) <|
            sif (D.isAgg d20=false) <|
            letN (IntKind.wrap IntKind.i64 (i14+(1:Int))) fun n21=>
            sif (List.length l11=List.length (List.set l11 ((0:Nat)+Int.toNat i19) (D.sl Tag.fresh (cut (0:Nat) (List.length l17) l17)))) <|
            again5 (((i6,l7,(i8,i9,i10,PUnit.unit),List.set l11 ((0:Nat)+Int.toNat i19) (D.sl Tag.fresh (cut (0:Nat) (List.length l17) l17)),l12,i13,n21,PUnit.unit),PUnit.unit))))
          (zat (zax [D.agg [D.int IntKind.i64 i8,D.int IntKind.i64 i9,D.int IntKind.i64 i10],D.int IntKind.i64 i6]) fun r22=>
          zed r22 fun ts23=>
          zay ([Lf.any,Lf.any]) ts23 fun c24=>
          asI IntKind.i64 c24.fst fun i25=>
          asI IntKind.i64 c24.snd.fst fun i26=>
          zat (zbH [D.sl Tag.lent l7]) fun r27=>
          za9 r27 fun l28=>
          sif ((0:Int)≤i25) <|
          sif (Int.toNat i25 < List.length l11) <|
          sif ((0:Nat)+List.length l28≤List.length l28) <|
          getK l11 ((0:Nat)+Int.toNat i25) fun d29=>
          sif ((0:Nat)+List.length l28≤List.length l28) <|
          sif (D.isAgg d29=false) <|
          brK (decide (i26≥(0:Int)))
            (zat (zbI [D.sl Tag.lent l7]) fun r30=>
            za9 r30 fun l31=>
            sif ((0:Int)≤i26) <|
            sif (Int.toNat i26 < List.length l11) <|
            sif ((0:Nat)+List.length l31≤List.length l31) <|
            getK (List.set l11 ((0:Nat)+Int.toNat i25) (D.sl Tag.fresh (cut (0:Nat) (List.length l28) l28))) ((0:Nat)+Int.toNat i26) fun d32=>
            sif ((0:Nat)+List.length l31≤List.length l31) <|
            sif (D.isAgg d32=false) <|
            sif (List.length l11=List.length (List.set (List.set l11 ((0:Nat)+Int.toNat i25) (D.sl Tag.fresh (cut (0:Nat) (List.length l28) l28))) ((0:Nat)+Int.toNat i26) (D.sl Tag.fresh (cut (0:Nat) (List.length l31) l31)))) <|
            sif (List.all (List.set (List.set l11 ((0:Nat)+Int.toNat i25) (D.sl Tag.fresh (cut (0:Nat) (List.length l28) l28))) ((0:Nat)+Int.toNat i26) (D.sl Tag.fresh (cut (0:Nat) (List.length l31) l31))) D.free=true) <|
            some (D.tup [D.sl Tag.own (List.set (List.set l11 ((0:Nat)+Int.toNat i25) (D.sl Tag.fresh (cut (0:Nat) (List.length l28) l28))) ((0:Nat)+Int.toNat i26) (D.sl Tag.fresh (cut (0:Nat) (List.length l31) l31))),D.bool true]))
            (sif (List.length l11=List.length (List.set l11 ((0:Nat)+Int.toNat i25) (D.sl Tag.fresh (cut (0:Nat) (List.length l28) l28)))) <|
            sif (List.all (List.set l11 ((0:Nat)+Int.toNat i25) (D.sl Tag.fresh (cut (0:Nat) (List.length l28) l28))) D.free=true) <|
            some (D.tup [D.sl Tag.own (List.set l11 ((0:Nat)+Int.toNat i25) (D.sl Tag.fresh (cut (0:Nat) (List.length l28) l28))),D.bool true]))))
        (((a1,a2,(a0_0,a0_1,a0_2,PUnit.unit),List.replicate (Int.toNat a0_1) (D.sl Tag.nil []),a2,(↑(List.length a2):Int),(0:Int),PUnit.unit),PUnit.unit))))
theorem zmT (zap:List D→Option D) (zac:List D→Option D) (zbb:List D→Option D) (zax:List D→Option D) (zbH:List D→Option D) (zbI:List D→Option D) (tga2:Tag) (a0_0:Int) (a0_1:Int) (a0_2:Int) (a1:Int) (a2:List D):denP Try.prog (zaz [(ID.wattleref01_fine,(.pure [0] zap)),(ID.wattleref01_Width,(.pure [0] zac)),(ID.wattleref01_Disk,(.pure [0] zbb)),(ID.wattleref01_Parity,(.pure [0,0] zax)),(ID.wattleref01_P,(.pure [1] zbH)),(ID.wattleref01_Q,(.pure [1] zbI))]) zfU [1,0] ID.wattleref01_Fill [.agg [.int .i64 a0_0,.int .i64 a0_1,.int .i64 a0_2],.int .i64 a1,.sl tga2 a2]=zeP zap zac zbb zax zbH zbI a0_0 a0_1 a0_2 a1 (D.lentL a2):=by kernel_rfl
theorem zjS (tga2:Tag) (a0_0:Int) (a0_1:Int) (a0_2:Int) (a1:Int) (a2:List D):zbk [.agg [.int .i64 a0_0,.int .i64 a0_1,.int .i64 a0_2],.int .i64 a1,.sl tga2 a2]=zeP zap zac zbb zax zbH zbI a0_0 a0_1 a0_2 a1 (D.lentL a2):=zmT zap zac zbb zax zbH zbI tga2 a0_0 a0_1 a0_2 a1 a2
def zg8:Ann:={ loops:=[],ks:=[(3840,false)] }
noncomputable def zal:List D→List Tb→Option Ans:=denS Try.prog (zaz []) zg8 [0] ID.bench_Bench_is
theorem zk2:za4 Try.prog ID.bench_Bench_is (.st [] [0] [(3840,false)] zal):=zbi (zaB []) zbB ⟨Try.f66,by kernel_rfl,by kernel_rfl,by kernel_rfl⟩
noncomputable def zdf:Fact Try.prog:=⟨ID.bench_Bench_is,(.st [] [0] [(3840,false)] zal),zk2⟩
noncomputable def zfJ (a0:Nat) (a1:Int) (T0:Tb):Option Ans:=
  brK (decide (a1≥(0:Int)))
    (getK T0 a0 fun d1=>
    getK d1 ((3:Nat)) fun d2=>
    za9 d2 fun l3=>
    getK T0 a0 fun d4=>
    getK d4 ((3:Nat)) fun d5=>
    za9 d5 fun l6=>
    sif ((0:Nat)+List.length l3≤List.length l6) <|
    some (Ans.mk (D.bool (decide (a1 < (↑(List.length l3):Int)))) [] []))
    (some (Ans.mk (D.bool false) [] []))
theorem zoI (a0:Nat) (a1:Int) (T0:Tb):denS Try.prog (zaz []) zg8 [0] ID.bench_Bench_is [.h 3840 a0 0,.int .i64 a1] [T0]=zfJ a0 a1 T0:=by kernel_rfl
theorem zlW (a0:Nat) (a1:Int) (T0:Tb):zal [.h 3840 a0 0,.int .i64 a1] [T0]=zfJ a0 a1 T0:=zoI a0 a1 T0
def zhR:Ann:={ loops:=[],ks:=[(7649,false)] }
noncomputable def zaS:List D→List Tb→Option Ans:=denS Try.prog (zaz []) zhR [0] ID.disk_Disk_may
theorem zlX:za4 Try.prog ID.disk_Disk_may (.st [] [0] [(7649,false)] zaS):=zbi (zaB []) zbB ⟨Try.f118,by kernel_rfl,by kernel_rfl,by kernel_rfl⟩
noncomputable def zg9:Fact Try.prog:=⟨ID.disk_Disk_may,(.st [] [0] [(7649,false)] zaS),zlX⟩
noncomputable def zgD (a0:Nat) (a1:Int) (T0:Tb):Option Ans:=
  getK T0 a0 fun d1=>
  getK d1 ((1665:Nat)) fun d2=>
  asB d2 fun b3=>
  brK b3
    (some (Ans.mk (D.int IntKind.i64 (5:Int)) [] []))
    (brK (decide (a1 < (0:Int)))
      (some (Ans.mk (D.int IntKind.i64 (4:Int)) [] []))
      (brK (decide (a1≥(52:Int)))
        (some (Ans.mk (D.int IntKind.i64 (4:Int)) [] []))
        (some (Ans.mk (D.int IntKind.i64 (0:Int)) [] []))))
theorem zqd (a0:Nat) (a1:Int) (T0:Tb):denS Try.prog (zaz []) zhR [0] ID.disk_Disk_may [.h 7649 a0 0,.int .i64 a1] [T0]=zgD a0 a1 T0:=by kernel_rfl
theorem zmU (a0:Nat) (a1:Int) (T0:Tb):zaS [.h 7649 a0 0,.int .i64 a1] [T0]=zgD a0 a1 T0:=zqd a0 a1 T0
def zhS:Ann:={ loops:=[],ks:=[(7649,false)] }
noncomputable def zaT:List D→List Tb→Option Ans:=denS Try.prog (zaz [(ID.disk_Disk_may,(.st [] [0] [(7649,false)] zaS))]) zhS [0,0] ID.disk_Disk_put
theorem zlY:za4 Try.prog ID.disk_Disk_put (.st [] [0,0] [(7649,false)] zaT):=zbi (zaB [zg9]) zbB ⟨Try.f124,by kernel_rfl,by kernel_rfl,by kernel_rfl⟩
noncomputable def zha:Fact Try.prog:=⟨ID.disk_Disk_put,(.st [] [0,0] [(7649,false)] zaT),zlY⟩
noncomputable def zgE (zaS:List D→List Tb→Option Ans) (a0:Nat) (a1:Int) (a2:List D) (T0:Tb):Option Ans:=
  zat (zaS [D.h (7649:Nat) a0 (0:Nat),D.int IntKind.i64 a1] [T0]) fun r1=>
  nilK r1.outs <|
  nilK r1.tbs <|
  asI IntKind.i64 r1.r fun i2=>
  brK (i2 != (0:Int))
    (some (Ans.mk (D.tup [D.agg [D.int IntKind.i64 (0:Int),D.int IntKind.u8 (0:Int),D.int IntKind.u8 (0:Int),D.int IntKind.u8 (0:Int),D.int IntKind.u8 (0:Int),D.int IntKind.u8 (0:Int),D.int IntKind.u8 (0:Int),D.int IntKind.u8 (0:Int),D.int IntKind.u8 (0:Int),D.int IntKind.u8 (0:Int),D.int IntKind.u8 (0:Int),D.int IntKind.u8 (0:Int),D.int IntKind.u8 (0:Int),D.int IntKind.u8 (0:Int),D.int IntKind.u8 (0:Int),D.int IntKind.u8 (0:Int),D.int IntKind.u8 (0:Int),D.int IntKind.u8 (0:Int),D.int IntKind.u8 (0:Int),D.int IntKind.u8 (0:Int),D.int IntKind.u8 (0:Int),D.int IntKind.u8 (0:Int),D.int IntKind.u8 (0:Int),D.int IntKind.u8 (0:Int),D.int IntKind.u8 (0:Int),D.int IntKind.u8 (0:Int),D.int IntKind.u8 (0:Int),D.int IntKind.u8 (0:Int),D.int IntKind.u8 (0:Int),D.int IntKind.u8 (0:Int),D.int IntKind.u8 (0:Int),D.int IntKind.u8 (0:Int),D.int IntKind.u8 (0:Int)],D.int IntKind.i64 i2]) [] []))
    (brK ((↑(List.length a2):Int) != (32:Int))
      (some (Ans.mk (D.tup [D.agg [D.int IntKind.i64 (0:Int),D.int IntKind.u8 (0:Int),D.int IntKind.u8 (0:Int),D.int IntKind.u8 (0:Int),D.int IntKind.u8 (0:Int),D.int IntKind.u8 (0:Int),D.int IntKind.u8 (0:Int),D.int IntKind.u8 (0:Int),D.int IntKind.u8 (0:Int),D.int IntKind.u8 (0:Int),D.int IntKind.u8 (0:Int),D.int IntKind.u8 (0:Int),D.int IntKind.u8 (0:Int),D.int IntKind.u8 (0:Int),D.int IntKind.u8 (0:Int),D.int IntKind.u8 (0:Int),D.int IntKind.u8 (0:Int),D.int IntKind.u8 (0:Int),D.int IntKind.u8 (0:Int),D.int IntKind.u8 (0:Int),D.int IntKind.u8 (0:Int),D.int IntKind.u8 (0:Int),D.int IntKind.u8 (0:Int),D.int IntKind.u8 (0:Int),D.int IntKind.u8 (0:Int),D.int IntKind.u8 (0:Int),D.int IntKind.u8 (0:Int),D.int IntKind.u8 (0:Int),D.int IntKind.u8 (0:Int),D.int IntKind.u8 (0:Int),D.int IntKind.u8 (0:Int),D.int IntKind.u8 (0:Int),D.int IntKind.u8 (0:Int)],D.int IntKind.i64 (1:Int)]) [] []))
      (sif (cells a2=true) <|
      sif (List.length a2=(32:Nat)) <|
      sif ((33:Nat)≤List.length ([D.int IntKind.i64 a1]++(a2++[]))) <|
      zay ([Lf.int IntKind.i64,Lf.arr (32)]) (List.take (33:Nat) (List.drop (0:Nat) ([D.int IntKind.i64 a1]++(a2++[])))) fun c3=>
      sif (List.length ([D.int IntKind.i64 c3.fst]++(c3.snd.fst++[]))=(33:Nat)) <|
      sif ((33:Nat)≤List.length ([D.int IntKind.i64 c3.fst]++(c3.snd.fst++[]))) <|
      zay ([Lf.int IntKind.i64,Lf.arr (32)]) (List.take (33:Nat) (List.drop (0:Nat) ([D.int IntKind.i64 c3.fst]++(c3.snd.fst++[])))) fun c4=>
      sif (D.free (D.agg ([D.int IntKind.i64 c4.fst]++(c4.snd.fst++[])))=true) <|
      some (Ans.mk (D.tup [D.agg ([D.int IntKind.i64 c4.fst]++(c4.snd.fst++[])),D.int IntKind.i64 (0:Int)]) [] [])))
theorem zqe (zaS:List D→List Tb→Option Ans) (tga2:Tag) (a0:Nat) (a1:Int) (a2:List D) (T0:Tb):denS Try.prog (zaz [(ID.disk_Disk_may,(.st [] [0] [(7649,false)] zaS))]) zhS [0,0] ID.disk_Disk_put [.h 7649 a0 0,.int .i64 a1,.sl tga2 a2] [T0]=zgE zaS a0 a1 (D.lentL a2) T0:=by kernel_rfl
theorem zmV (tga2:Tag) (a0:Nat) (a1:Int) (a2:List D) (T0:Tb):zaT [.h 7649 a0 0,.int .i64 a1,.sl tga2 a2] [T0]=zgE zaS a0 a1 (D.lentL a2) T0:=zqe zaS tga2 a0 a1 a2 T0
def zcq:Ann:={ loops:=[] }
noncomputable def zad:List D→Option D:=denE Try.prog (zaz []) zcq [33] ID.slices_Clone_disk_write_disk_write
theorem zdv:za4 Try.prog ID.slices_Clone_disk_write_disk_write (.pure [33] zad):=zrF (zaB []) zbB ⟨Try.f121,by kernel_rfl,by kernel_rfl,by kernel_rfl⟩
noncomputable def zcm:Fact Try.prog:=⟨ID.slices_Clone_disk_write_disk_write,(.pure [33] zad),zdv⟩
noncomputable def zb1 (a0:D) (b0:List D):Option D:=
  sif (List.length (a0::b0)≤(4294967296:Nat)) <|
  sif (zdZ (33:Nat) (a0::b0)=true) <|
  sif (List.length (a0::b0)=List.length (a0::b0)) <|
  sif (List.all (a0::b0) D.free=true) <|
  some (D.sl Tag.own (a0::b0))
theorem zeg (tga0:Tag) (a0:D) (b0:List D):denE Try.prog (zaz []) zcq [33] ID.slices_Clone_disk_write_disk_write [.sl tga0 (a0::b0)]=zb1 (D.lent a0) (D.lentL b0):=by kernel_rfl
theorem zdI (tga0:Tag) (a0:D) (b0:List D):zad [.sl tga0 (a0::b0)]=zb1 (D.lent a0) (D.lentL b0):=zeg tga0 a0 b0
theorem zdw (tg:Tag):zad [.sl tg []]=some (.sl .own []):=(zov (some (.sl .own [])))
def ze7:Ann:={ loops:=[],hints:=[(1,.at1 (.int .i64))] }
noncomputable def zaD:List D→Option D:=denP Try.prog (zaz []) ze7 [0] ID.disk_Disk_Damage_1
theorem zhT:za4 Try.prog ID.disk_Disk_Damage_1 (.pure [0] zaD):=zas (zaB []) zbB ⟨Try.f126,by kernel_rfl,by kernel_rfl,by kernel_rfl⟩
noncomputable def zeQ:Fact Try.prog:=⟨ID.disk_Disk_Damage_1,(.pure [0] zaD),zhT⟩
noncomputable def zd4 (a0:List D) (c0:Int):Option D:=
  zay ([Lf.int IntKind.i64,Lf.arr (32)]) a0 fun c1=>
  some (D.bool (c1.fst == c0))
theorem zk3 (a0:List D) (c0:Int):denP Try.prog (zaz []) ze7 [0] ID.disk_Disk_Damage_1 [.agg a0,.at_ (.int .i64 c0)]=zd4 (D.lentL a0) c0:=by kernel_rfl
theorem zit (a0:List D) (c0:Int):zaD [.agg a0,.at_ (.int .i64 c0)]=zd4 (D.lentL a0) c0:=zk3 a0 c0
def zcd:Ann:={ loops:=[(0,[.val (.cell .lent),.val (.fn1 (126:FuncId) (.int .i64)),.dead,.dead,.dead,.dead,.dead,.val (.cell (.int .i64)),.val (.cell (.int .i64))])] }
noncomputable def zam:List D→Option D:=denP Try.prog (zaz [(ID.disk_Disk_Damage_1,(.pure [0] zaD))]) zcd [0] ID.slices_IndexFunc_disk_write_disk_write
theorem zc9:za4 Try.prog ID.slices_IndexFunc_disk_write_disk_write (.pure [0] zam):=zas (zaB [zeQ]) zbB ⟨Try.f139,by kernel_rfl,by kernel_rfl,by kernel_rfl⟩
noncomputable def zdg:Fact Try.prog:=⟨ID.slices_IndexFunc_disk_write_disk_write,(.pure [0] zam),zc9⟩
noncomputable def zbz (zaD:List D→Option D) (a0:List D) (c0:Int):Option D:=
  zcc (α:=(List D×Int×Int×Int×PUnit)×PUnit) (fun again1 ((l2,(i3,(i4,(i5,_)))),_)=>
    brK (decide (i5 < i4))
      (sif ((0:Int)≤i5) <|
      getK l2 (Int.toNat i5) fun d6=>
      asAgg d6 fun cs7=>
      zay ([Lf.int IntKind.i64,Lf.arr (32)]) cs7 fun c8=>
      sif (D.width (D.agg ([D.int IntKind.i64 c8.fst]++(c8.snd.fst++[])))=(33:Nat)) <|
      zay ([Lf.int IntKind.i64,Lf.arr (32)]) ([D.int IntKind.i64 c8.fst]++(c8.snd.fst++[])) fun c9=>
      sif (D.width (D.agg ([D.int IntKind.i64 c9.fst]++(c9.snd.fst++[])))=(33:Nat)) <|
      zat (zaD [D.agg ([D.int IntKind.i64 c9.fst]++(c9.snd.fst++[])),D.at_ (D.int IntKind.i64 i3)]) fun r10=>
      asB r10 fun b11=>
      brK b11
        (some (D.int IntKind.i64 i5))
        (letN (IntKind.wrap IntKind.i64 (i5+(1:Int))) fun n12=>
        again1 (((l2,i3,i4,n12,PUnit.unit),PUnit.unit))))
      (some (D.int IntKind.i64 (-1:Int))))
    (((a0,c0,(↑(List.length a0):Int),(0:Int),PUnit.unit),PUnit.unit))
theorem zcV (zaD:List D→Option D) (tga0:Tag) (a0:List D) (c0:Int):denP Try.prog (zaz [(ID.disk_Disk_Damage_1,(.pure [0] zaD))]) zcd [0] ID.slices_IndexFunc_disk_write_disk_write [.sl tga0 a0,.fn 126 [] [.at_ (.int .i64 c0)]]=zbz zaD (D.lentL a0) c0:=by kernel_rfl
theorem zcG (tga0:Tag) (a0:List D) (c0:Int):zam [.sl tga0 a0,.fn 126 [] [.at_ (.int .i64 c0)]]=zbz zaD (D.lentL a0) c0:=zcV zaD tga0 a0 c0
def zca:Ann:={ loops:=[(1,[.own 33,.val (.fn1 (126:FuncId) (.int .i64)),.dead,.dead,.dead,.val (.cell (.int .i64)),.val (.cell (.int .i64))])],pms:=[(.own,33)] }
noncomputable def zai:List D→List Tb→Option Ans:=denS Try.prog (zaz [(ID.slices_IndexFunc_disk_write_disk_write,(.pure [0] zam)),(ID.disk_Disk_Damage_1,(.pure [0] zaD))]) zca [33] ID.slices_DeleteFunc_disk_write_disk_write
theorem zc4:za4 Try.prog ID.slices_DeleteFunc_disk_write_disk_write (.st [(.own,33)] [33] [] zai):=zbi (zaB [zdg,zeQ]) zbB ⟨Try.f125,by kernel_rfl,by kernel_rfl,by kernel_rfl⟩
noncomputable def zda:Fact Try.prog:=⟨ID.slices_DeleteFunc_disk_write_disk_write,(.st [(.own,33)] [33] [] zai),zc4⟩
noncomputable def zbq (zam:List D→Option D) (zaD:List D→Option D) (a0:List D) (c0:Int):Option Ans:=
  sif ((0:Nat)+List.length a0≤List.length a0) <|
  zat (zam [D.sl Tag.lent (cut (0:Nat) (List.length a0) a0),D.fn (126:FuncId) [] [D.at_ (D.int IntKind.i64 c0)]]) fun r1=>
  asI IntKind.i64 r1 fun i2=>
  brK (i2 == (-1:Int))
    (sif (List.length a0=List.length a0) <|
    sif (List.all a0 D.free=true) <|
    some (Ans.mk (D.sl Tag.own a0) [] []))
    (letN (IntKind.wrap IntKind.i64 (i2+(1:Int))) fun n3=>
    none)
theorem zcO (zam:List D→Option D) (zaD:List D→Option D) (a0:List D) (c0:Int):denS Try.prog (zaz [(ID.slices_IndexFunc_disk_write_disk_write,(.pure [0] zam)),(ID.disk_Disk_Damage_1,(.pure [0] zaD))]) zca [33] ID.slices_DeleteFunc_disk_write_disk_write [.sl .own a0,.fn 126 [] [.at_ (.int .i64 c0)]] []=zbq zam zaD a0 c0:=by kernel_rfl
theorem zcD (a0:List D) (c0:Int):zai [.sl .own a0,.fn 126 [] [.at_ (.int .i64 c0)]] []=zbq zam zaD a0 c0:=zcO zam zaD a0 c0
def zfV:Ann:={ loops:=[],ks:=[(7649,true)] }
noncomputable def zbl:List D→List Tb→Option Ans:=denS Try.prog (zaz [(ID.disk_Disk_put,(.st [] [0,0] [(7649,false)] zaT)),(ID.slices_Clone_disk_write_disk_write,(.pure [33] zad)),(ID.slices_DeleteFunc_disk_write_disk_write,(.st [(.own,33)] [33] [] zai))]) zfV [0] ID.disk_Disk_Damage
theorem zi8:za4 Try.prog ID.disk_Disk_Damage (.st [] [0] [(7649,true)] zbl):=zbi (zaB [zha,zcm,zda]) zbB ⟨Try.f100,by kernel_rfl,by kernel_rfl,by kernel_rfl⟩
noncomputable def zjT:Fact Try.prog:=⟨ID.disk_Disk_Damage,(.st [] [0] [(7649,true)] zbl),zi8⟩
noncomputable def zeR (zaT:List D→List Tb→Option Ans) (zad:List D→Option D) (zai:List D→List Tb→Option Ans) (a0:Nat) (a1:Int) (a2:List D) (T0:Tb):Option Ans:=
  zat (zaT [D.h (7649:Nat) a0 (0:Nat),D.int IntKind.i64 a1,D.sl Tag.lent a2] [T0]) fun r1=>
  nilK r1.outs <|
  nilK r1.tbs <|
  zed r1.r fun ts2=>
  zay ([Lf.any,Lf.any]) ts2 fun c3=>
  asAgg c3.fst fun cs4=>
  zay ([Lf.int IntKind.i64,Lf.arr (32)]) cs4 fun c5=>
  asI IntKind.i64 c3.snd.fst fun i6=>
  sif (List.length ([D.int IntKind.i64 c5.fst]++(c5.snd.fst++[]))=(33:Nat)) <|
  brK (i6 != (0:Int))
    (some (Ans.mk (D.int IntKind.i64 i6) [] [T0]))
    (sif ((33:Nat)≤List.length ([D.int IntKind.i64 c5.fst]++(c5.snd.fst++[]))) <|
    sif (List.length (List.take (32:Nat) (List.drop (1:Nat) ([D.int IntKind.i64 c5.fst]++(c5.snd.fst++[]))))=(32:Nat)) <|
    sif ((0:Int)≤a1) <|
    sif (Int.toNat a1 < (52:Nat)) <|
    getK T0 a0 fun d7=>
    sif ((0:Nat)+Int.toNat a1*(32:Nat)+(32:Nat)≤List.length d7) <|
    sif (List.length (List.take (32:Nat) (List.drop (1:Nat) ([D.int IntKind.i64 c5.fst]++(c5.snd.fst++[]))))=(32:Nat)) <|
    sif (zhg (List.take (32:Nat) (List.drop (1:Nat) ([D.int IntKind.i64 c5.fst]++(c5.snd.fst++[]))))=true) <|
    sif (zhg (List.take (32:Nat) (List.drop ((0:Nat)+Int.toNat a1*(32:Nat)) d7))=true) <|
    letT (zaU T0 a0 ((0:Nat)+Int.toNat a1*(32:Nat)) (List.take (32:Nat) (List.drop (1:Nat) ([D.int IntKind.i64 c5.fst]++(c5.snd.fst++[]))))) fun U8=>
    getK U8 a0 fun d9=>
    getK d9 ((1664:Nat)) fun d10=>
    za9 d10 fun l11=>
    getK U8 a0 fun d12=>
    getK d12 ((1664:Nat)) fun d13=>
    za9 d13 fun l14=>
    sif ((0:Nat)+List.length l11≤List.length l14) <|
    zat (zad [D.sl Tag.lent (cut (0:Nat) (List.length l11) l14)]) fun r15=>
    za9 r15 fun l16=>
    sif (List.length l16=List.length l16) <|
    sif (zc2 l16=true) <|
    zat (zai [D.sl Tag.own l16,D.fn (126:Nat) [] [D.at_ (D.int IntKind.i64 a1)]] []) fun r17=>
    nilK r17.outs <|
    nilK r17.tbs <|
    za9 r17.r fun l18=>
    sif ((0:Nat)+List.length l18≤List.length l18) <|
    getK U8 a0 fun d19=>
    sif ((1665:Nat)≤List.length d19) <|
    sif (List.length l18=List.length l18) <|
    sif (zc2 l18=true) <|
    sif (zfz (33:Nat) l18=true) <|
    letT (zaU U8 a0 (1664:Nat) [D.sl Tag.own l18]) fun U20=>
    some (Ans.mk (D.int IntKind.i64 (0:Int)) [] [U20]))
theorem zmW (zaT:List D→List Tb→Option Ans) (zad:List D→Option D) (zai:List D→List Tb→Option Ans) (tga2:Tag) (a0:Nat) (a1:Int) (a2:List D) (T0:Tb):denS Try.prog (zaz [(ID.disk_Disk_put,(.st [] [0,0] [(7649,false)] zaT)),(ID.slices_Clone_disk_write_disk_write,(.pure [33] zad)),(ID.slices_DeleteFunc_disk_write_disk_write,(.st [(.own,33)] [33] [] zai))]) zfV [0] ID.disk_Disk_Damage [.h 7649 a0 0,.int .i64 a1,.sl tga2 a2] [T0]=zeR zaT zad zai a0 a1 (D.lentL a2) T0:=by kernel_rfl
theorem zjU (tga2:Tag) (a0:Nat) (a1:Int) (a2:List D) (T0:Tb):zbl [.h 7649 a0 0,.int .i64 a1,.sl tga2 a2] [T0]=zeR zaT zad zai a0 a1 (D.lentL a2) T0:=zmW zaT zad zai tga2 a0 a1 a2 T0
def ze8:Ann:={ loops:=[],ks:=[(3840,false),(7649,true)] }
noncomputable def za7:List D→List Tb→Option Ans:=denS Try.prog (zaz [(ID.bench_Bench_is,(.st [] [0] [(3840,false)] zal)),(ID.disk_Disk_Damage,(.st [] [0] [(7649,true)] zbl))]) ze8 [0] ID.bench_Bench_Damage
theorem zhU:za4 Try.prog ID.bench_Bench_Damage (.st [] [0] [(3840,false),(7649,true)] za7):=zbi (zaB [zdf,zjT]) zbB ⟨Try.f65,by kernel_rfl,by kernel_rfl,by kernel_rfl⟩
noncomputable def ziu:Fact Try.prog:=⟨ID.bench_Bench_Damage,(.st [] [0] [(3840,false),(7649,true)] za7),zhU⟩
noncomputable def zd5 (zal:List D→List Tb→Option Ans) (zbl:List D→List Tb→Option Ans) (a0:Nat) (a1:Int) (a2:Int) (a3:List D) (T0:Tb) (T1:Tb):Option Ans:=
  zat (zal [D.h (3840:Nat) a0 (0:Nat),D.int IntKind.i64 a1] [T0]) fun r1=>
  nilK r1.outs <|
  nilK r1.tbs <|
  asB r1.r fun b2=>
  brK (!b2)
    (some (Ans.mk (D.int IntKind.i64 (1:Int)) [] [T1]))
    (getK T0 a0 fun d3=>
    getK d3 ((3:Nat)) fun d4=>
    za9 d4 fun l5=>
    getK T0 a0 fun d6=>
    getK d6 ((3:Nat)) fun d7=>
    za9 d7 fun l8=>
    sif ((0:Int)≤a1) <|
    sif (Int.toNat a1 < List.length l5) <|
    getK T0 a0 fun d9=>
    getK d9 ((3:Nat)) fun d10=>
    za9 d10 fun l11=>
    getK l11 ((0:Nat)+Int.toNat a1) fun d12=>
    sif (D.isAgg d12=false) <|
    sif (D.width d12=(1:Nat)) <|
    sif (D.cell d12=true) <|
    zat (zbl [d12,D.int IntKind.i64 a2,D.sl Tag.lent a3] [T1]) fun r13=>
    nilK r13.outs <|
    zee r13.tbs fun c14 q15=>
    nilK q15 <|
    asI IntKind.i64 r13.r fun i16=>
    some (Ans.mk (D.int IntKind.i64 i16) [] [c14]))
theorem zk4 (zal:List D→List Tb→Option Ans) (zbl:List D→List Tb→Option Ans) (tga3:Tag) (a0:Nat) (a1:Int) (a2:Int) (a3:List D) (T0:Tb) (T1:Tb):denS Try.prog (zaz [(ID.bench_Bench_is,(.st [] [0] [(3840,false)] zal)),(ID.disk_Disk_Damage,(.st [] [0] [(7649,true)] zbl))]) ze8 [0] ID.bench_Bench_Damage [.h 3840 a0 0,.int .i64 a1,.int .i64 a2,.sl tga3 a3] [T0,T1]=zd5 zal zbl a0 a1 a2 (D.lentL a3) T0 T1:=by kernel_rfl
theorem ziv (tga3:Tag) (a0:Nat) (a1:Int) (a2:Int) (a3:List D) (T0:Tb) (T1:Tb):za7 [.h 3840 a0 0,.int .i64 a1,.int .i64 a2,.sl tga3 a3] [T0,T1]=zd5 zal zbl a0 a1 a2 (D.lentL a3) T0 T1:=zk4 zal zbl tga3 a0 a1 a2 a3 T0 T1
def ze9:Ann:={ loops:=[(1,[.dead,.val (.cell (.int .i64)),.val (.cell .lent),.box true [(.int .i64),(.int .i64),(.int .i64)],.dead,.dead,.dead,.ptr 3840,.dead,.val (.cell (.int .i64))]),(3,[.dead,.val (.cell (.int .i64)),.val (.cell .lent),.box true [(.int .i64),(.int .i64),(.int .i64)],.dead,.dead,.dead,.ptr 3840,.dead,.val (.cell (.int .i64)),.own 1,.val (.cell .bool),.val (.cell (.int .i64))])],ks:=[(3840,true),(7649,true)] }
noncomputable def zaX:List D→List Tb→Option Ans:=denS Try.prog (zaz [(ID.bench_New,(.st [] [0,0] [(3840,true),(7649,true)] zbp)),(ID.wattleref01_Width,(.pure [0] zac)),(ID.wattleplay_Sectors,(.pure [1] zaj)),(ID.wattleref01_Fill,(.pure [1,0] zbk)),(ID.bench_Bench_Damage,(.st [] [0] [(3840,false),(7649,true)] za7))]) ze9 [0] ID.wattlelaw14_Filled
theorem zhV:za4 Try.prog ID.wattlelaw14_Filled (.st [] [0] [(3840,true),(7649,true)] zaX):=zbi (zaB [zlp,zcg,zde,zjR,ziu]) zbB ⟨Try.f17,by kernel_rfl,by kernel_rfl,by kernel_rfl⟩
noncomputable def ziw:Fact Try.prog:=⟨ID.wattlelaw14_Filled,(.st [] [0] [(3840,true),(7649,true)] zaX),zhV⟩
noncomputable def zd6 (zbp:List D→List Tb→Option Ans) (zac:List D→Option D) (zaj:List D→Option D) (zbk:List D→Option D) (za7:List D→List Tb→Option Ans) (a0_0:Int) (a0_1:Int) (a0_2:Int) (a1:Int) (a2:List D) (T0:Tb) (T1:Tb):Option Ans:=
  zat (zbp [D.int IntKind.i64 a1] [T0,T1]) fun r1=>
  nilK r1.outs <|
  zee r1.tbs fun c2 q3=>
  zee q3 fun c4 q5=>
  nilK q5 <|
  zed r1.r fun ts6=>
  zay ([Lf.any,Lf.any]) ts6 fun c7=>
  sif (ziN c7.fst=true) <|
  asI IntKind.i64 c7.snd.fst fun i8=>
  brK (i8 != (0:Int))
    (some (Ans.mk D.nilp [] [c2,c4]))
    (znr c7.fst fun b9=>
    brK b9
      (some (Ans.mk D.nilp [] [c2,c4]))
      (zcc (α:=(Int×List D×(Int×Int×Int×PUnit)×D×Int×PUnit)×List (List D)×List (List D)×PUnit) (fun again10 ((i11,(l12,((i13,(i14,(i15,_))),(x16,(i17,_))))),(U18,(U19,_)))=>
        brK (decide (i17 < (16:Int)))
          (letN (min i17 (↑(List.length l12):Int)) fun n20=>
          sif ((0:Int)≤n20) <|
          sif (n20≤(↑(List.length l12):Int)) <|
          sif ((↑(List.length l12):Int)≤(↑(List.length l12):Int)) <|
          sif ((↑(List.length l12):Int)=(↑(List.length l12):Int)) <|
          sif (zvh (1:Nat) l12=true) <|
          zat (zac [D.agg [D.int IntKind.i64 i13,D.int IntKind.i64 i14,D.int IntKind.i64 i15]]) fun r21=>
          asI IntKind.i64 r21 fun i22=>
          zat (zaj [D.sl (zdP Tag.lent false (decide ((↑(List.length l12):Int)=(↑(List.length l12):Int)))) (cutI n20 (↑(List.length l12):Int) l12),D.int IntKind.i64 i22]) fun r23=>
          za9 r23 fun l24=>
          sif ((0:Nat)+List.length l24≤List.length l24) <|
          zat (zbk [D.agg [D.int IntKind.i64 i13,D.int IntKind.i64 i14,D.int IntKind.i64 i15],D.int IntKind.i64 i17,D.sl Tag.lent (cut (0:Nat) (List.length l24) l24)]) fun r25=>
          zed r25 fun ts26=>
          zay ([Lf.any,Lf.any]) ts26 fun c27=>
          za9 c27.fst fun l28=>
          asB c27.snd.fst fun b29=>
          sif (List.length l28=List.length l28) <|
          zcc (α:=(Int×List D×(Int×Int×Int×PUnit)×D×Int×List D×Bool×Int×PUnit)×List (List D)×List (List D)×PUnit) (fun again30 ((i31,(l32,((i33,(i34,(i35,_))),(x36,(i37,(l38,(b39,(i40,_)))))))),(U41,(U42,_)))=>
            brK b39
              (sif ((0:Nat)+List.length l38≤List.length l38) <|
              brK (decide (i40 < (↑(List.length l38):Int)))
                (brK (decide (i40 < i31))
                  (letN (IntKind.wrap IntKind.i64 ((36:Int)+i37)) fun n43=>
                  sif ((0:Int)≤i40) <|
                  sif (Int.toNat i40 < List.length l38) <|
                  getK l38 ((0:Nat)+Int.toNat i40) fun d44=>
                  asSl d44 fun t45 l46=>
                  zat (za7 [x36,D.int IntKind.i64 i40,D.int IntKind.i64 n43,D.sl t45 l46] [U41,U42]) fun r47=>
                  nilK r47.outs <|
                  zee r47.tbs fun c48 q49=>
                  nilK q49 <|
                  asI IntKind.i64 r47.r fun i50=>
                  letN (IntKind.wrap IntKind.i64 (i40+(1:Int))) fun n51=>
                  sif (List.length l38=List.length l38) <|
                  again30 (((i31,l32,(i33,i34,i35,PUnit.unit),x36,i37,l38,b39,n51,PUnit.unit),U41,c48,PUnit.unit)))
                  (letN (IntKind.wrap IntKind.i64 (i37+(1:Int))) fun n52=>
                  again10 (((i31,l32,(i33,i34,i35,PUnit.unit),x36,n52,PUnit.unit),U41,U42,PUnit.unit))))
                (letN (IntKind.wrap IntKind.i64 (i37+(1:Int))) fun n53=>
                again10 (((i31,l32,(i33,i34,i35,PUnit.unit),x36,n53,PUnit.unit),U41,U42,PUnit.unit))))
              (letN (IntKind.wrap IntKind.i64 (i37+(1:Int))) fun n54=>
              again10 (((i31,l32,(i33,i34,i35,PUnit.unit),x36,n54,PUnit.unit),U41,U42,PUnit.unit))))
            (((i11,l12,(i13,i14,i15,PUnit.unit),x16,i17,l28,b29,(0:Int),PUnit.unit),U18,U19,PUnit.unit)))
          (sif (D.free x16=true) <|
          some (Ans.mk x16 [] [U18,U19])))
        (((a1,a2,(a0_0,a0_1,a0_2,PUnit.unit),c7.fst,(0:Int),PUnit.unit),c2,c4,PUnit.unit))))
theorem zk5 (zbp:List D→List Tb→Option Ans) (zac:List D→Option D) (zaj:List D→Option D) (zbk:List D→Option D) (za7:List D→List Tb→Option Ans) (tga2:Tag) (a0_0:Int) (a0_1:Int) (a0_2:Int) (a1:Int) (a2:List D) (T0:Tb) (T1:Tb):denS Try.prog (zaz [(ID.bench_New,(.st [] [0,0] [(3840,true),(7649,true)] zbp)),(ID.wattleref01_Width,(.pure [0] zac)),(ID.wattleplay_Sectors,(.pure [1] zaj)),(ID.wattleref01_Fill,(.pure [1,0] zbk)),(ID.bench_Bench_Damage,(.st [] [0] [(3840,false),(7649,true)] za7))]) ze9 [0] ID.wattlelaw14_Filled [.agg [.int .i64 a0_0,.int .i64 a0_1,.int .i64 a0_2],.int .i64 a1,.sl tga2 a2] [T0,T1]=zd6 zbp zac zaj zbk za7 a0_0 a0_1 a0_2 a1 (D.lentL a2) T0 T1:=by kernel_rfl
theorem zix (tga2:Tag) (a0_0:Int) (a0_1:Int) (a0_2:Int) (a1:Int) (a2:List D) (T0:Tb) (T1:Tb):zaX [.agg [.int .i64 a0_0,.int .i64 a0_1,.int .i64 a0_2],.int .i64 a1,.sl tga2 a2] [T0,T1]=zd6 zbp zac zaj zbk za7 a0_0 a0_1 a0_2 a1 (D.lentL a2) T0 T1:=zk5 zbp zac zaj zbk za7 tga2 a0_0 a0_1 a0_2 a1 a2 T0 T1
def zgF:Ann:={ loops:=[(0,[.val (.cell (.int .i64)),.val (.cell (.int .i64)),.dead,.dead,.dead,.own 1,.dead,.dead,.dead,.dead,.val (.cell (.int .i64)),.val (.cell (.int .i64))])] }
noncomputable def zbv:List D→Option D:=denP Try.prog (zaz [(ID.wattlekeep_Within,(.pure [0] zaa))]) zgF [1] ID.wattleplay_Live
theorem zjV:za4 Try.prog ID.wattleplay_Live (.pure [1] zbv):=zas (zaB [zcI]) zbB ⟨Try.f18,by kernel_rfl,by kernel_rfl,by kernel_rfl⟩
noncomputable def zk6:Fact Try.prog:=⟨ID.wattleplay_Live,(.pure [1] zbv),zjV⟩
noncomputable def zfj (zaa:List D→Option D) (a0:Int) (a1:Int):Option D:=
  sif ((0:Int)≤a1) <|
  sif (a1=a1) <|
  sif (a1*(1:Int)≤(140737488355328:Int)) <|
  sif (a1≤(140737488355328:Int)) <|
  sif ((0:Nat)+Int.toNat a1≤List.length (List.replicate (Int.toNat a1) (D.bool false))) <|
  sif (Int.toNat a1=List.length (List.replicate (Int.toNat a1) (D.bool false))) <|
  zcc (α:=(Int×Int×List D×Int×Int×PUnit)×PUnit) (fun again1 ((i2,(i3,(l4,(i5,(i6,_))))),_)=>
    brK (decide (i6 < i5))
      (sif ((0:Int)≤i6) <|
      sif (Int.toNat i6 < List.length l4) <|
      getK l4 ((0:Nat)+Int.toNat i6) fun d7=>
      sif (D.isAgg d7=false) <|
      letN (IntKind.wrap IntKind.i64 (i6+(1:Int))) fun n8=>
      sif (List.length l4=List.length (List.set l4 ((0:Nat)+Int.toNat i6) (D.bool true))) <|
      again1 (((i2,i3,List.set l4 ((0:Nat)+Int.toNat i6) (D.bool true),i5,n8,PUnit.unit),PUnit.unit)))
      (brK (decide (i3 > (0:Int)))
        (zat (zaa [D.int IntKind.i64 i2,D.int IntKind.i64 (3:Int)]) fun r9=>
        asI IntKind.i64 r9 fun i10=>
        brK (decide (i10 > (0:Int)))
          (letN (IntKind.wrap IntKind.i64 (Int.tdiv i2 (3:Int))) fun n11=>
          zat (zaa [D.int IntKind.i64 n11,D.int IntKind.i64 i3]) fun r12=>
          asI IntKind.i64 r12 fun i13=>
          sif ((0:Int)≤i13) <|
          sif (Int.toNat i13 < List.length l4) <|
          getK l4 ((0:Nat)+Int.toNat i13) fun d14=>
          sif (D.isAgg d14=false) <|
          brK (decide (i3 > (0:Int)))
            (zat (zaa [D.int IntKind.i64 i2,D.int IntKind.i64 (9:Int)]) fun r15=>
            asI IntKind.i64 r15 fun i16=>
            brK (i16 == (8:Int))
              (letN (IntKind.wrap IntKind.i64 (Int.tdiv i2 (27:Int))) fun n17=>
              zat (zaa [D.int IntKind.i64 n17,D.int IntKind.i64 i3]) fun r18=>
              asI IntKind.i64 r18 fun i19=>
              sif ((0:Int)≤i19) <|
              sif (Int.toNat i19 < List.length l4) <|
              getK (List.set l4 ((0:Nat)+Int.toNat i13) (D.bool false)) ((0:Nat)+Int.toNat i19) fun d20=>
              sif (D.isAgg d20=false) <|
              sif (List.length l4=List.length (List.set (List.set l4 ((0:Nat)+Int.toNat i13) (D.bool false)) ((0:Nat)+Int.toNat i19) (D.bool false))) <|
              sif (List.all (List.set (List.set l4 ((0:Nat)+Int.toNat i13) (D.bool false)) ((0:Nat)+Int.toNat i19) (D.bool false)) D.free=true) <|
              some (D.sl Tag.own (List.set (List.set l4 ((0:Nat)+Int.toNat i13) (D.bool false)) ((0:Nat)+Int.toNat i19) (D.bool false))))
              (sif (List.length l4=List.length (List.set l4 ((0:Nat)+Int.toNat i13) (D.bool false))) <|
              sif (List.all (List.set l4 ((0:Nat)+Int.toNat i13) (D.bool false)) D.free=true) <|
              some (D.sl Tag.own (List.set l4 ((0:Nat)+Int.toNat i13) (D.bool false)))))
            (sif (List.length l4=List.length (List.set l4 ((0:Nat)+Int.toNat i13) (D.bool false))) <|
            sif (List.all (List.set l4 ((0:Nat)+Int.toNat i13) (D.bool false)) D.free=true) <|
            some (D.sl Tag.own (List.set l4 ((0:Nat)+Int.toNat i13) (D.bool false)))))
          (brK (decide (i3 > (0:Int)))
            (zat (zaa [D.int IntKind.i64 i2,D.int IntKind.i64 (9:Int)]) fun r21=>
            asI IntKind.i64 r21 fun i22=>
            brK (i22 == (8:Int))
              (letN (IntKind.wrap IntKind.i64 (Int.tdiv i2 (27:Int))) fun n23=>
              zat (zaa [D.int IntKind.i64 n23,D.int IntKind.i64 i3]) fun r24=>
              asI IntKind.i64 r24 fun i25=>
              sif ((0:Int)≤i25) <|
              sif (Int.toNat i25 < List.length l4) <|
              getK l4 ((0:Nat)+Int.toNat i25) fun d26=>
              sif (D.isAgg d26=false) <|
              sif (List.length l4=List.length (List.set l4 ((0:Nat)+Int.toNat i25) (D.bool false))) <|
              sif (List.all (List.set l4 ((0:Nat)+Int.toNat i25) (D.bool false)) D.free=true) <|
              some (D.sl Tag.own (List.set l4 ((0:Nat)+Int.toNat i25) (D.bool false))))
              (sif (List.length l4=List.length l4) <|
              sif (List.all l4 D.free=true) <|
              some (D.sl Tag.own l4)))
            (sif (List.length l4=List.length l4) <|
            sif (List.all l4 D.free=true) <|
            some (D.sl Tag.own l4))))
        (brK (decide (i3 > (0:Int)))
          (zat (zaa [D.int IntKind.i64 i2,D.int IntKind.i64 (9:Int)]) fun r27=>
          asI IntKind.i64 r27 fun i28=>
          brK (i28 == (8:Int))
            (letN (IntKind.wrap IntKind.i64 (Int.tdiv i2 (27:Int))) fun n29=>
            zat (zaa [D.int IntKind.i64 n29,D.int IntKind.i64 i3]) fun r30=>
            asI IntKind.i64 r30 fun i31=>
            sif ((0:Int)≤i31) <|
            sif (Int.toNat i31 < List.length l4) <|
            getK l4 ((0:Nat)+Int.toNat i31) fun d32=>
            sif (D.isAgg d32=false) <|
            sif (List.length l4=List.length (List.set l4 ((0:Nat)+Int.toNat i31) (D.bool false))) <|
            sif (List.all (List.set l4 ((0:Nat)+Int.toNat i31) (D.bool false)) D.free=true) <|
            some (D.sl Tag.own (List.set l4 ((0:Nat)+Int.toNat i31) (D.bool false))))
            (sif (List.length l4=List.length l4) <|
            sif (List.all l4 D.free=true) <|
            some (D.sl Tag.own l4)))
          (sif (List.length l4=List.length l4) <|
          sif (List.all l4 D.free=true) <|
          some (D.sl Tag.own l4)))))
    (((a0,a1,List.replicate (Int.toNat a1) (D.bool false),(↑(Int.toNat a1):Int),(0:Int),PUnit.unit),PUnit.unit))
theorem znO (zaa:List D→Option D) (a0:Int) (a1:Int):denP Try.prog (zaz [(ID.wattlekeep_Within,(.pure [0] zaa))]) zgF [1] ID.wattleplay_Live [.int .i64 a0,.int .i64 a1]=zfj zaa a0 a1:=by kernel_rfl
theorem zk7 (a0:Int) (a1:Int):zbv [.int .i64 a0,.int .i64 a1]=zfj zaa a0 a1:=znO zaa a0 a1
def zhb:Ann:={ loops:=[],ks:=[(7649,true)] }
noncomputable def zbC:List D→List Tb→Option Ans:=denS Try.prog (zaz []) zhb [] ID.disk_Disk_Fail
theorem zk8:za4 Try.prog ID.disk_Disk_Fail (.st [] [] [(7649,true)] zbC):=zbi (zaB []) zbB ⟨Try.f67,by kernel_rfl,by kernel_rfl,by kernel_rfl⟩
noncomputable def zlZ:Fact Try.prog:=⟨ID.disk_Disk_Fail,(.st [] [] [(7649,true)] zbC),zk8⟩
noncomputable def zfK (a0:Nat) (T0:Tb):Option Ans:=
  getK T0 a0 fun d1=>
  sif ((1666:Nat)≤List.length d1) <|
  letT (zaU T0 a0 (0:Nat) (List.map D.own0 (List.set (List.reverse ([D.bool false,D.sl Tag.nil []]++List.replicate 1664 (D.int IntKind.u8 (0:Int)))) (1665:Nat) (D.bool true)))) fun U2=>
  some (Ans.mk (D.tup []) [] [U2])
theorem zoJ (a0:Nat) (T0:Tb):denS Try.prog (zaz []) zhb [] ID.disk_Disk_Fail [.h 7649 a0 0] [T0]=zfK a0 T0:=by kernel_rfl
theorem zl0 (a0:Nat) (T0:Tb):zbC [.h 7649 a0 0] [T0]=zfK a0 T0:=zoJ a0 T0
def zfW:Ann:={ loops:=[],ks:=[(3840,false),(7649,true)] }
noncomputable def za2:List D→List Tb→Option Ans:=denS Try.prog (zaz [(ID.bench_Bench_is,(.st [] [0] [(3840,false)] zal)),(ID.disk_Disk_Fail,(.st [] [] [(7649,true)] zbC))]) zfW [0] ID.bench_Bench_Fail
theorem zi9:za4 Try.prog ID.bench_Bench_Fail (.st [] [0] [(3840,false),(7649,true)] za2):=zbi (zaB [zdf,zlZ]) zbB ⟨Try.f19,by kernel_rfl,by kernel_rfl,by kernel_rfl⟩
noncomputable def zjW:Fact Try.prog:=⟨ID.bench_Bench_Fail,(.st [] [0] [(3840,false),(7649,true)] za2),zi9⟩
noncomputable def zeS (zal:List D→List Tb→Option Ans) (zbC:List D→List Tb→Option Ans) (a0:Nat) (a1:Int) (T0:Tb) (T1:Tb):Option Ans:=
  zat (zal [D.h (3840:Nat) a0 (0:Nat),D.int IntKind.i64 a1] [T0]) fun r1=>
  nilK r1.outs <|
  nilK r1.tbs <|
  asB r1.r fun b2=>
  brK (!b2)
    (some (Ans.mk (D.int IntKind.i64 (1:Int)) [] [T1]))
    (getK T0 a0 fun d3=>
    getK d3 ((3:Nat)) fun d4=>
    za9 d4 fun l5=>
    getK T0 a0 fun d6=>
    getK d6 ((3:Nat)) fun d7=>
    za9 d7 fun l8=>
    sif ((0:Int)≤a1) <|
    sif (Int.toNat a1 < List.length l5) <|
    getK T0 a0 fun d9=>
    getK d9 ((3:Nat)) fun d10=>
    za9 d10 fun l11=>
    getK l11 ((0:Nat)+Int.toNat a1) fun d12=>
    sif (D.isAgg d12=false) <|
    sif (D.width d12=(1:Nat)) <|
    sif (D.cell d12=true) <|
    zat (zbC [d12] [T1]) fun r13=>
    nilK r13.outs <|
    zee r13.tbs fun c14 q15=>
    nilK q15 <|
    zed r13.r fun ts16=>
    nilK ts16 <|
    some (Ans.mk (D.int IntKind.i64 (0:Int)) [] [c14]))
theorem zmX (zal:List D→List Tb→Option Ans) (zbC:List D→List Tb→Option Ans) (a0:Nat) (a1:Int) (T0:Tb) (T1:Tb):denS Try.prog (zaz [(ID.bench_Bench_is,(.st [] [0] [(3840,false)] zal)),(ID.disk_Disk_Fail,(.st [] [] [(7649,true)] zbC))]) zfW [0] ID.bench_Bench_Fail [.h 3840 a0 0,.int .i64 a1] [T0,T1]=zeS zal zbC a0 a1 T0 T1:=by kernel_rfl
theorem zjX (a0:Nat) (a1:Int) (T0:Tb) (T1:Tb):za2 [.h 3840 a0 0,.int .i64 a1] [T0,T1]=zeS zal zbC a0 a1 T0 T1:=zmX zal zbC a0 a1 T0 T1
def zfX:Ann:={ loops:=[],ks:=[(7649,false)] }
noncomputable def zbm:List D→List Tb→Option Ans:=denS Try.prog (zaz []) zfX [0] ID.disk_Disk_Failed
theorem zja:za4 Try.prog ID.disk_Disk_Failed (.st [] [0] [(7649,false)] zbm):=zbi (zaB []) zbB ⟨Try.f84,by kernel_rfl,by kernel_rfl,by kernel_rfl⟩
noncomputable def zjY:Fact Try.prog:=⟨ID.disk_Disk_Failed,(.st [] [0] [(7649,false)] zbm),zja⟩
noncomputable def zeT (a0:Nat) (T0:Tb):Option Ans:=
  getK T0 a0 fun d1=>
  getK d1 ((1665:Nat)) fun d2=>
  asB d2 fun b3=>
  some (Ans.mk (D.bool b3) [] [])
theorem zmY (a0:Nat) (T0:Tb):denS Try.prog (zaz []) zfX [0] ID.disk_Disk_Failed [.h 7649 a0 0] [T0]=zeT a0 T0:=by kernel_rfl
theorem zjZ (a0:Nat) (T0:Tb):zbm [.h 7649 a0 0] [T0]=zeT a0 T0:=zmY a0 T0
def zfa:Ann:={ loops:=[],ks:=[(3840,false),(7649,false)] }
noncomputable def za8:List D→List Tb→Option Ans:=denS Try.prog (zaz [(ID.bench_Bench_is,(.st [] [0] [(3840,false)] zal)),(ID.disk_Disk_Failed,(.st [] [0] [(7649,false)] zbm))]) zfa [0] ID.bench_Bench_Failed
theorem zhW:za4 Try.prog ID.bench_Bench_Failed (.st [] [0] [(3840,false),(7649,false)] za8):=zbi (zaB [zdf,zjY]) zbB ⟨Try.f41,by kernel_rfl,by kernel_rfl,by kernel_rfl⟩
noncomputable def ziy:Fact Try.prog:=⟨ID.bench_Bench_Failed,(.st [] [0] [(3840,false),(7649,false)] za8),zhW⟩
noncomputable def zd7 (zal:List D→List Tb→Option Ans) (zbm:List D→List Tb→Option Ans) (a0:Nat) (a1:Int) (T0:Tb) (T1:Tb):Option Ans:=
  zat (zal [D.h (3840:Nat) a0 (0:Nat),D.int IntKind.i64 a1] [T0]) fun r1=>
  nilK r1.outs <|
  nilK r1.tbs <|
  asB r1.r fun b2=>
  brK b2
    (getK T0 a0 fun d3=>
    getK d3 ((3:Nat)) fun d4=>
    za9 d4 fun l5=>
    getK T0 a0 fun d6=>
    getK d6 ((3:Nat)) fun d7=>
    za9 d7 fun l8=>
    sif ((0:Int)≤a1) <|
    sif (Int.toNat a1 < List.length l5) <|
    getK T0 a0 fun d9=>
    getK d9 ((3:Nat)) fun d10=>
    za9 d10 fun l11=>
    getK l11 ((0:Nat)+Int.toNat a1) fun d12=>
    sif (D.isAgg d12=false) <|
    sif (D.width d12=(1:Nat)) <|
    sif (D.cell d12=true) <|
    zat (zbm [d12] [T1]) fun r13=>
    nilK r13.outs <|
    nilK r13.tbs <|
    asB r13.r fun b14=>
    some (Ans.mk (D.bool b14) [] []))
    (some (Ans.mk (D.bool false) [] []))
theorem zk9 (zal:List D→List Tb→Option Ans) (zbm:List D→List Tb→Option Ans) (a0:Nat) (a1:Int) (T0:Tb) (T1:Tb):denS Try.prog (zaz [(ID.bench_Bench_is,(.st [] [0] [(3840,false)] zal)),(ID.disk_Disk_Failed,(.st [] [0] [(7649,false)] zbm))]) zfa [0] ID.bench_Bench_Failed [.h 3840 a0 0,.int .i64 a1] [T0,T1]=zd7 zal zbm a0 a1 T0 T1:=by kernel_rfl
theorem ziz (a0:Nat) (a1:Int) (T0:Tb) (T1:Tb):za8 [.h 3840 a0 0,.int .i64 a1] [T0,T1]=zd7 zal zbm a0 a1 T0 T1:=zk9 zal zbm a0 a1 T0 T1
def zgG:Ann:={ loops:=[],ks:=[(3840,false)] }
noncomputable def zaK:List D→List Tb→Option Ans:=denS Try.prog (zaz []) zgG [0] ID.bench_Bench_Len
theorem zj0:za4 Try.prog ID.bench_Bench_Len (.st [] [0] [(3840,false)] zaK):=zbi (zaB []) zbB ⟨Try.f68,by kernel_rfl,by kernel_rfl,by kernel_rfl⟩
noncomputable def zfY:Fact Try.prog:=⟨ID.bench_Bench_Len,(.st [] [0] [(3840,false)] zaK),zj0⟩
noncomputable def zfk (a0:Nat) (T0:Tb):Option Ans:=
  getK T0 a0 fun d1=>
  getK d1 ((3:Nat)) fun d2=>
  za9 d2 fun l3=>
  getK T0 a0 fun d4=>
  getK d4 ((3:Nat)) fun d5=>
  za9 d5 fun l6=>
  sif ((0:Nat)+List.length l3≤List.length l6) <|
  some (Ans.mk (D.int IntKind.i64 (↑(List.length l3):Int)) [] [])
theorem znP (a0:Nat) (T0:Tb):denS Try.prog (zaz []) zgG [0] ID.bench_Bench_Len [.h 3840 a0 0] [T0]=zfk a0 T0:=by kernel_rfl
theorem zla (a0:Nat) (T0:Tb):zaK [.h 3840 a0 0] [T0]=zfk a0 T0:=znP a0 T0
def zeB:Ann:={ loops:=[(0,[.val (.cell .lent),.val (.cell (.int .i64)),.dead,.dead,.dead,.dead,.dead,.val (.cell (.int .i64)),.val (.cell (.int .i64))])] }
noncomputable def za1:List D→Option D:=denP Try.prog (zaz []) zeB [0] ID.slices_Index_int_int
theorem zgV:za4 Try.prog ID.slices_Index_int_int (.pure [0] za1):=zas (zaB []) zbB ⟨Try.f87,by kernel_rfl,by kernel_rfl,by kernel_rfl⟩
noncomputable def zhi:Fact Try.prog:=⟨ID.slices_Index_int_int,(.pure [0] za1),zgV⟩
noncomputable def zdp (a0:List D) (a1:Int):Option D:=
  zcc (α:=(List D×Int×Int×Int×PUnit)×PUnit) (fun again1 ((l2,(i3,(i4,(i5,_)))),_)=>
    brK (decide (i5 < i4))
      (sif ((0:Int)≤i5) <|
      getK l2 (Int.toNat i5) fun d6=>
      asI IntKind.i64 d6 fun i7=>
      brK (i3 == i7)
        (some (D.int IntKind.i64 i5))
        (letN (IntKind.wrap IntKind.i64 (i5+(1:Int))) fun n8=>
        again1 (((l2,i3,i4,n8,PUnit.unit),PUnit.unit))))
      (some (D.int IntKind.i64 (-1:Int))))
    (((a0,a1,(↑(List.length a0):Int),(0:Int),PUnit.unit),PUnit.unit))
theorem zjb (tga0:Tag) (a0:List D) (a1:Int):denP Try.prog (zaz []) zeB [0] ID.slices_Index_int_int [.sl tga0 a0,.int .i64 a1]=zdp (D.lentL a0) a1:=by kernel_rfl
theorem zhj (tga0:Tag) (a0:List D) (a1:Int):za1 [.sl tga0 a0,.int .i64 a1]=zdp (D.lentL a0) a1:=zjb tga0 a0 a1
def zdJ:Ann:={ loops:=[] }
noncomputable def zaL:List D→Option D:=denP Try.prog (zaz [(ID.slices_Index_int_int,(.pure [0] za1))]) zdJ [0] ID.slices_Contains_int_int
theorem zfL:za4 Try.prog ID.slices_Contains_int_int (.pure [0] zaL):=zas (zaB [zhi]) zbB ⟨Try.f101,by kernel_rfl,by kernel_rfl,by kernel_rfl⟩
noncomputable def zga:Fact Try.prog:=⟨ID.slices_Contains_int_int,(.pure [0] zaL),zfL⟩
noncomputable def zcZ (za1:List D→Option D) (a0:List D) (a1:Int):Option D:=
  zat (za1 [D.sl Tag.lent a0,D.int IntKind.i64 a1]) fun r1=>
  asI IntKind.i64 r1 fun i2=>
  some (D.bool (decide (i2≥(0:Int))))
theorem zhk (za1:List D→Option D) (tga0:Tag) (a0:List D) (a1:Int):denP Try.prog (zaz [(ID.slices_Index_int_int,(.pure [0] za1))]) zdJ [0] ID.slices_Contains_int_int [.sl tga0 a0,.int .i64 a1]=zcZ za1 (D.lentL a0) a1:=by kernel_rfl
theorem zgb (tga0:Tag) (a0:List D) (a1:Int):zaL [.sl tga0 a0,.int .i64 a1]=zcZ za1 (D.lentL a0) a1:=zhk za1 tga0 a0 a1
def zlq:Ann:={ loops:=[] }
noncomputable def zar:List D→Option D:=denP Try.prog (zaz [(ID.slices_Contains_int_int,(.pure [0] zaL))]) zlq [0] ID.geom_Check
theorem zoK:za4 Try.prog ID.geom_Check (.pure [0] zar):=zas (zaB [zga]) zbB ⟨Try.f69,by kernel_rfl,by kernel_rfl,by kernel_rfl⟩
noncomputable def zdK:Fact Try.prog:=⟨ID.geom_Check,(.pure [0] zar),zoK⟩
noncomputable def zj1 (zaL:List D→Option D) (a0_0:Int) (a0_1:Int) (a0_2:Int):Option D:=
  asI IntKind.i64 (zxv a0_0 (D.int IntKind.i64 (0:Int)) (setD (6:Int) (D.int IntKind.i64 (4:Int)) (setD (5:Int) (D.int IntKind.i64 (3:Int)) []))) fun i1=>
  brK (i1 == (0:Int))
    (some (D.int IntKind.i64 (1:Int)))
    (brK (decide (a0_1 < i1))
      (some (D.int IntKind.i64 (1:Int)))
      (brK (decide (a0_1 > (8:Int)))
        (some (D.int IntKind.i64 (1:Int)))
        (zat (zaL [D.sl Tag.full [D.int IntKind.i64 (1:Int),D.int IntKind.i64 (2:Int),D.int IntKind.i64 (4:Int)],D.int IntKind.i64 a0_2]) fun r2=>
        asB r2 fun b3=>
        brK (!b3)
          (some (D.int IntKind.i64 (1:Int)))
          (some (D.int IntKind.i64 (0:Int))))))
theorem zuD (zaL:List D→Option D) (a0_0:Int) (a0_1:Int) (a0_2:Int):denP Try.prog (zaz [(ID.slices_Contains_int_int,(.pure [0] zaL))]) zlq [0] ID.geom_Check [.agg [.int .i64 a0_0,.int .i64 a0_1,.int .i64 a0_2]]=zj1 zaL a0_0 a0_1 a0_2:=by kernel_rfl
theorem zqf (a0_0:Int) (a0_1:Int) (a0_2:Int):zar [.agg [.int .i64 a0_0,.int .i64 a0_1,.int .i64 a0_2]]=zj1 zaL a0_0 a0_1 a0_2:=zuD zaL a0_0 a0_1 a0_2
def zmZ:Ann:={ loops:=[],ks:=[(3840,false),(7649,false)] }
noncomputable def za0:List D→List Tb→Option Ans:=denS Try.prog (zaz [(ID.bench_Bench_Len,(.st [] [0] [(3840,false)] zaK)),(ID.bench_Bench_Failed,(.st [] [0] [(3840,false),(7649,false)] za8))]) zmZ [0] ID.stripe_up
theorem zqg:za4 Try.prog ID.stripe_up (.st [] [0] [(3840,false),(7649,false)] za0):=zbi (zaB [zfY,ziy]) zbB ⟨Try.f70,by kernel_rfl,by kernel_rfl,by kernel_rfl⟩
noncomputable def zhl:Fact Try.prog:=⟨ID.stripe_up,(.st [] [0] [(3840,false),(7649,false)] za0),zqg⟩
noncomputable def zl1 (zaK:List D→List Tb→Option Ans) (za8:List D→List Tb→Option Ans) (a0:Nat) (a1:List D) (a2:Int) (T0:Tb) (T1:Tb):Option Ans:=
  zat (zaK [D.h (3840:Nat) a0 (0:Nat)] [T0]) fun r1=>
  nilK r1.outs <|
  nilK r1.tbs <|
  asI IntKind.i64 r1.r fun i2=>
  brK (decide (a2 < i2))
    (brK (decide (a2 < (↑(List.length a1):Int)))
      (sif ((0:Int)≤a2) <|
      getK a1 (Int.toNat a2) fun d3=>
      asB d3 fun b4=>
      brK b4
        (zat (za8 [D.h (3840:Nat) a0 (0:Nat),D.int IntKind.i64 a2] [T0,T1]) fun r5=>
        nilK r5.outs <|
        nilK r5.tbs <|
        asB r5.r fun b6=>
        some (Ans.mk (D.bool !b6) [] []))
        (some (Ans.mk (D.bool false) [] [])))
      (some (Ans.mk (D.bool false) [] [])))
    (some (Ans.mk (D.bool false) [] []))
theorem zvQ (zaK:List D→List Tb→Option Ans) (za8:List D→List Tb→Option Ans) (tga1:Tag) (a0:Nat) (a1:List D) (a2:Int) (T0:Tb) (T1:Tb):denS Try.prog (zaz [(ID.bench_Bench_Len,(.st [] [0] [(3840,false)] zaK)),(ID.bench_Bench_Failed,(.st [] [0] [(3840,false),(7649,false)] za8))]) zmZ [0] ID.stripe_up [.h 3840 a0 0,.sl tga1 a1,.int .i64 a2] [T0,T1]=zl1 zaK za8 a0 (D.lentL a1) a2 T0 T1:=by kernel_rfl
theorem zqN (tga1:Tag) (a0:Nat) (a1:List D) (a2:Int) (T0:Tb) (T1:Tb):za0 [.h 3840 a0 0,.sl tga1 a1,.int .i64 a2] [T0,T1]=zl1 zaK za8 a0 (D.lentL a1) a2 T0 T1:=zvQ zaK za8 tga1 a0 a1 a2 T0 T1
def zgH:Ann:={ loops:=[],ks:=[(3840,false)] }
noncomputable def zau:List D→List Tb→Option Ans:=denS Try.prog (zaz [(ID.bench_Bench_is,(.st [] [0] [(3840,false)] zal))]) zgH [0] ID.bench_Bench_may
theorem zj2:za4 Try.prog ID.bench_Bench_may (.st [] [0] [(3840,false)] zau):=zbi (zaB [zdf]) zbB ⟨Try.f85,by kernel_rfl,by kernel_rfl,by kernel_rfl⟩
noncomputable def zd8:Fact Try.prog:=⟨ID.bench_Bench_may,(.st [] [0] [(3840,false)] zau),zj2⟩
noncomputable def zfl (zal:List D→List Tb→Option Ans) (a0:Nat) (a1:Int) (T0:Tb):Option Ans:=
  zat (zal [D.h (3840:Nat) a0 (0:Nat),D.int IntKind.i64 a1] [T0]) fun r1=>
  nilK r1.outs <|
  nilK r1.tbs <|
  asB r1.r fun b2=>
  brK (!b2)
    (some (Ans.mk (D.int IntKind.i64 (1:Int)) [] []))
    (getK T0 a0 fun d3=>
    getK d3 ((2:Nat)) fun d4=>
    asB d4 fun b5=>
    brK b5
      (some (Ans.mk (D.int IntKind.i64 (6:Int)) [] []))
      (some (Ans.mk (D.int IntKind.i64 (0:Int)) [] [])))
theorem znQ (zal:List D→List Tb→Option Ans) (a0:Nat) (a1:Int) (T0:Tb):denS Try.prog (zaz [(ID.bench_Bench_is,(.st [] [0] [(3840,false)] zal))]) zgH [0] ID.bench_Bench_may [.h 3840 a0 0,.int .i64 a1] [T0]=zfl zal a0 a1 T0:=by kernel_rfl
theorem zlb (a0:Nat) (a1:Int) (T0:Tb):zau [.h 3840 a0 0,.int .i64 a1] [T0]=zfl zal a0 a1 T0:=znQ zal a0 a1 T0
def zdX:Ann:={ loops:=[] }
noncomputable def zak:List D→Option D:=denE Try.prog (zaz []) zdX [1] ID.slices_Clone_byte_byte
theorem zgc:za4 Try.prog ID.slices_Clone_byte_byte (.pure [1] zak):=zrF (zaB []) zbB ⟨Try.f109,by kernel_rfl,by kernel_rfl,by kernel_rfl⟩
noncomputable def zdL:Fact Try.prog:=⟨ID.slices_Clone_byte_byte,(.pure [1] zak),zgc⟩
noncomputable def zc5 (a0:D) (b0:List D):Option D:=
  sif (List.length (a0::b0)≤(4294967296:Nat)) <|
  sif (zdZ (1:Nat) (a0::b0)=true) <|
  sif (List.length (a0::b0)=List.length (a0::b0)) <|
  sif (List.all (a0::b0) D.free=true) <|
  some (D.sl Tag.own (a0::b0))
theorem zhX (tga0:Tag) (a0:D) (b0:List D):denE Try.prog (zaz []) zdX [1] ID.slices_Clone_byte_byte [.sl tga0 (a0::b0)]=zc5 (D.lent a0) (D.lentL b0):=by kernel_rfl
theorem zgI (tga0:Tag) (a0:D) (b0:List D):zak [.sl tga0 (a0::b0)]=zc5 (D.lent a0) (D.lentL b0):=zhX tga0 a0 b0
theorem zgd (tg:Tag):zak [.sl tg []]=some (.sl .own []):=(zov (some (.sl .own [])))
def zhc:Ann:={ loops:=[(1,[.dead,.val (.cell (.int .i64)),.dead,.dead,.dead,.dead,.dead,.box true [(.arr 32)],.dead,.dead,.dead,.dead,.dead,.dead,.dead,.dead,.dead,.dead,.dead,.dead,.dead,.dead,.dead,.dead,.dead,.view 7649 1664,.val (.cell (.int .i64)),.val (.cell (.int .i64))])],ks:=[(7649,false)] }
noncomputable def zbD:List D→List Tb→Option Ans:=denS Try.prog (zaz [(ID.disk_Disk_may,(.st [] [0] [(7649,false)] zaS)),(ID.slices_Clone_byte_byte,(.pure [1] zak))]) zhc [1,0] ID.disk_Disk_Read
theorem zlc:za4 Try.prog ID.disk_Disk_Read (.st [] [1,0] [(7649,false)] zbD):=zbi (zaB [zg9,zdL]) zbB ⟨Try.f86,by kernel_rfl,by kernel_rfl,by kernel_rfl⟩
noncomputable def zl2:Fact Try.prog:=⟨ID.disk_Disk_Read,(.st [] [1,0] [(7649,false)] zbD),zlc⟩
noncomputable def zfM (zaS:List D→List Tb→Option Ans) (zak:List D→Option D) (a0:Nat) (a1:Int) (T0:Tb):Option Ans:=
  zat (zaS [D.h (7649:Nat) a0 (0:Nat),D.int IntKind.i64 a1] [T0]) fun r1=>
  nilK r1.outs <|
  nilK r1.tbs <|
  asI IntKind.i64 r1.r fun i2=>
  brK (i2 != (0:Int))
    (some (Ans.mk (D.tup [D.sl Tag.own [],D.int IntKind.i64 i2]) [] []))
    (sif ((0:Int)≤a1) <|
    sif (Int.toNat a1 < (52:Nat)) <|
    getK T0 a0 fun d3=>
    sif ((0:Nat)+Int.toNat a1*(32:Nat)+(32:Nat)≤List.length d3) <|
    sif (zhg (List.take (32:Nat) (List.drop ((0:Nat)+Int.toNat a1*(32:Nat)) d3))=true) <|
    sif (List.length (List.take (32:Nat) (List.drop ((0:Nat)+Int.toNat a1*(32:Nat)) d3))=(32:Nat)) <|
    sif (List.length (List.take (32:Nat) (List.drop ((0:Nat)+Int.toNat a1*(32:Nat)) d3))=(32:Nat)) <|
    getK T0 a0 fun d4=>
    getK d4 ((1664:Nat)) fun d5=>
    za9 d5 fun l6=>
    getK T0 a0 fun d7=>
    getK d7 ((1664:Nat)) fun d8=>
    za9 d8 fun l9=>
    sif ((0:Nat)+List.length l6≤List.length l9) <|
    zay ([Lf.arr (32)]) (List.take (32:Nat) (List.drop ((0:Nat)+Int.toNat a1*(32:Nat)) d3)) fun c10=>
    zcc (α:=(Int×(List D×PUnit)×(Nat×Nat×Nat)×Int×Int×PUnit)×List (List D)×PUnit) (fun again11 ((i12,((l13,_),((x14,(x15,x16)),(i17,(i18,_))))),(U19,_))=>
      brK (decide (i18 < i17))
        (getK U19 x14 fun d20=>
        getK d20 ((1664:Nat)) fun d21=>
        za9 d21 fun l22=>
        sif ((0:Int)≤i18) <|
        sif (Int.toNat i18 < x16) <|
        getK U19 x14 fun d23=>
        getK d23 ((1664:Nat)) fun d24=>
        za9 d24 fun l25=>
        getK l25 (x15+Int.toNat i18) fun d26=>
        asAgg d26 fun cs27=>
        zay ([Lf.int IntKind.i64,Lf.arr (32)]) cs27 fun c28=>
        sif (D.width (D.agg ([D.int IntKind.i64 c28.fst]++(c28.snd.fst++[])))=(33:Nat)) <|
        sif (List.length ([D.int IntKind.i64 c28.fst]++(c28.snd.fst++[]))=(33:Nat)) <|
        brK (c28.fst == i12)
          (sif ((33:Nat)≤List.length ([D.int IntKind.i64 c28.fst]++(c28.snd.fst++[]))) <|
          sif (List.length (List.take (32:Nat) (List.drop (1:Nat) ([D.int IntKind.i64 c28.fst]++(c28.snd.fst++[]))))=(32:Nat)) <|
          sif (List.length (List.take (32:Nat) (List.drop (1:Nat) ([D.int IntKind.i64 c28.fst]++(c28.snd.fst++[]))))=(32:Nat)) <|
          sif ((32:Nat)≤List.length (l13++[])) <|
          letN (IntKind.wrap IntKind.i64 (i18+(1:Int))) fun n29=>
          zay ([Lf.arr (32)]) (spl (0:Nat) (32:Nat) (l13++[]) (List.take (32:Nat) (List.drop (1:Nat) ([D.int IntKind.i64 c28.fst]++(c28.snd.fst++[]))))) fun c30=>
          again11 (((i12,c30,(x14,x15,x16),i17,n29,PUnit.unit),U19,PUnit.unit)))
          (letN (IntKind.wrap IntKind.i64 (i18+(1:Int))) fun n31=>
          zay ([Lf.arr (32)]) (l13++[]) fun c32=>
          again11 (((i12,c32,(x14,x15,x16),i17,n31,PUnit.unit),U19,PUnit.unit))))
        (sif ((32:Nat)≤List.length (l13++[])) <|
        sif ((32:Nat)≤List.length (l13++[])) <|
        zat (zak [D.sl Tag.lent (cut (0:Nat) (32:Nat) (l13++[]))]) fun r33=>
        za9 r33 fun l34=>
        sif (List.length l34=List.length l34) <|
        sif (List.all l34 D.free=true) <|
        some (Ans.mk (D.tup [D.sl Tag.own l34,D.int IntKind.i64 (0:Int)]) [] [])))
      (((a1,c10,(a0,(0:Nat),List.length l6),(↑(List.length l6):Int),(0:Int),PUnit.unit),T0,PUnit.unit)))
theorem zoL (zaS:List D→List Tb→Option Ans) (zak:List D→Option D) (a0:Nat) (a1:Int) (T0:Tb):denS Try.prog (zaz [(ID.disk_Disk_may,(.st [] [0] [(7649,false)] zaS)),(ID.slices_Clone_byte_byte,(.pure [1] zak))]) zhc [1,0] ID.disk_Disk_Read [.h 7649 a0 0,.int .i64 a1] [T0]=zfM zaS zak a0 a1 T0:=by kernel_rfl
theorem zl3 (a0:Nat) (a1:Int) (T0:Tb):zbD [.h 7649 a0 0,.int .i64 a1] [T0]=zfM zaS zak a0 a1 T0:=zoL zaS zak a0 a1 T0
def zfZ:Ann:={ loops:=[],ks:=[(3840,false),(7649,false)] }
noncomputable def zbn:List D→List Tb→Option Ans:=denS Try.prog (zaz [(ID.bench_Bench_may,(.st [] [0] [(3840,false)] zau)),(ID.disk_Disk_Read,(.st [] [1,0] [(7649,false)] zbD))]) zfZ [1,0] ID.bench_Bench_Read
theorem zjc:za4 Try.prog ID.bench_Bench_Read (.st [] [1,0] [(3840,false),(7649,false)] zbn):=zbi (zaB [zd8,zl2]) zbB ⟨Try.f42,by kernel_rfl,by kernel_rfl,by kernel_rfl⟩
noncomputable def zj3:Fact Try.prog:=⟨ID.bench_Bench_Read,(.st [] [1,0] [(3840,false),(7649,false)] zbn),zjc⟩
noncomputable def zeU (zau:List D→List Tb→Option Ans) (zbD:List D→List Tb→Option Ans) (a0:Nat) (a1:Int) (a2:Int) (T0:Tb) (T1:Tb):Option Ans:=
  zat (zau [D.h (3840:Nat) a0 (0:Nat),D.int IntKind.i64 a1] [T0]) fun r1=>
  nilK r1.outs <|
  nilK r1.tbs <|
  asI IntKind.i64 r1.r fun i2=>
  brK (i2 != (0:Int))
    (some (Ans.mk (D.tup [D.sl Tag.own [],D.int IntKind.i64 i2]) [] []))
    (getK T0 a0 fun d3=>
    getK d3 ((3:Nat)) fun d4=>
    za9 d4 fun l5=>
    getK T0 a0 fun d6=>
    getK d6 ((3:Nat)) fun d7=>
    za9 d7 fun l8=>
    sif ((0:Int)≤a1) <|
    sif (Int.toNat a1 < List.length l5) <|
    getK T0 a0 fun d9=>
    getK d9 ((3:Nat)) fun d10=>
    za9 d10 fun l11=>
    getK l11 ((0:Nat)+Int.toNat a1) fun d12=>
    sif (D.isAgg d12=false) <|
    sif (D.width d12=(1:Nat)) <|
    sif (D.cell d12=true) <|
    zat (zbD [d12,D.int IntKind.i64 a2] [T1]) fun r13=>
    nilK r13.outs <|
    nilK r13.tbs <|
    zed r13.r fun ts14=>
    zay ([Lf.any,Lf.any]) ts14 fun c15=>
    za9 c15.fst fun l16=>
    asI IntKind.i64 c15.snd.fst fun i17=>
    sif (List.length l16=List.length l16) <|
    sif (List.all l16 D.free=true) <|
    some (Ans.mk (D.tup [D.sl Tag.own l16,D.int IntKind.i64 i17]) [] []))
theorem zm0 (zau:List D→List Tb→Option Ans) (zbD:List D→List Tb→Option Ans) (a0:Nat) (a1:Int) (a2:Int) (T0:Tb) (T1:Tb):denS Try.prog (zaz [(ID.bench_Bench_may,(.st [] [0] [(3840,false)] zau)),(ID.disk_Disk_Read,(.st [] [1,0] [(7649,false)] zbD))]) zfZ [1,0] ID.bench_Bench_Read [.h 3840 a0 0,.int .i64 a1,.int .i64 a2] [T0,T1]=zeU zau zbD a0 a1 a2 T0 T1:=by kernel_rfl
theorem zj4 (a0:Nat) (a1:Int) (a2:Int) (T0:Tb) (T1:Tb):zbn [.h 3840 a0 0,.int .i64 a1,.int .i64 a2] [T0,T1]=zeU zau zbD a0 a1 a2 T0 T1:=zm0 zau zbD a0 a1 a2 T0 T1
def zrQ:Ann:={ loops:=[] }
noncomputable def zcr:List D→Option D:=denP Try.prog (zaz [(ID.geom_Check,(.pure [0] zar))]) zrQ [0] ID.row_in
theorem zuE:za4 Try.prog ID.row_in (.pure [0] zcr):=zas (zaB [zdK]) zbB ⟨Try.f102,by kernel_rfl,by kernel_rfl,by kernel_rfl⟩
noncomputable def zqh:Fact Try.prog:=⟨ID.row_in,(.pure [0] zcr),zuE⟩
noncomputable def zs0 (zar:List D→Option D) (a0_0:Int) (a0_1:Int) (a0_2:Int) (a1:Int):Option D:=
  zat (zar [D.agg [D.int IntKind.i64 a0_0,D.int IntKind.i64 a0_1,D.int IntKind.i64 a0_2]]) fun r1=>
  asI IntKind.i64 r1 fun i2=>
  brK (i2 == (0:Int))
    (brK (decide (a1≥(0:Int)))
      (some (D.bool (decide (a1 < (16:Int)))))
      (some (D.bool false)))
    (some (D.bool false))
theorem zA4 (zar:List D→Option D) (a0_0:Int) (a0_1:Int) (a0_2:Int) (a1:Int):denP Try.prog (zaz [(ID.geom_Check,(.pure [0] zar))]) zrQ [0] ID.row_in [.agg [.int .i64 a0_0,.int .i64 a0_1,.int .i64 a0_2],.int .i64 a1]=zs0 zar a0_0 a0_1 a0_2 a1:=by kernel_rfl
theorem zvR (a0_0:Int) (a0_1:Int) (a0_2:Int) (a1:Int):zcr [.agg [.int .i64 a0_0,.int .i64 a0_1,.int .i64 a0_2],.int .i64 a1]=zs0 zar a0_0 a0_1 a0_2 a1:=zA4 zar a0_0 a0_1 a0_2 a1
def zj5:Ann:={ loops:=[] }
noncomputable def zbc:List D→Option D:=denP Try.prog (zaz [(ID.geom_Check,(.pure [0] zar))]) zj5 [0] ID.geom_Budget
theorem znR:za4 Try.prog ID.geom_Budget (.pure [0] zbc):=zas (zaB [zdK]) zbB ⟨Try.f127,by kernel_rfl,by kernel_rfl,by kernel_rfl⟩
noncomputable def ziQ:Fact Try.prog:=⟨ID.geom_Budget,(.pure [0] zbc),znR⟩
noncomputable def ziA (zar:List D→Option D) (a0_0:Int) (a0_1:Int) (a0_2:Int):Option D:=
  zat (zar [D.agg [D.int IntKind.i64 a0_0,D.int IntKind.i64 a0_1,D.int IntKind.i64 a0_2]]) fun r1=>
  asI IntKind.i64 r1 fun i2=>
  brK (i2 != (0:Int))
    (some (D.int IntKind.i64 (0:Int)))
    (letN (IntKind.wrap IntKind.i64 (a0_0 - (4:Int))) fun n3=>
    some (D.int IntKind.i64 n3))
theorem zs1 (zar:List D→Option D) (a0_0:Int) (a0_1:Int) (a0_2:Int):denP Try.prog (zaz [(ID.geom_Check,(.pure [0] zar))]) zj5 [0] ID.geom_Budget [.agg [.int .i64 a0_0,.int .i64 a0_1,.int .i64 a0_2]]=ziA zar a0_0 a0_1 a0_2:=by kernel_rfl
theorem zoM (a0_0:Int) (a0_1:Int) (a0_2:Int):zbc [.agg [.int .i64 a0_0,.int .i64 a0_1,.int .i64 a0_2]]=ziA zar a0_0 a0_1 a0_2:=zs1 zar a0_0 a0_1 a0_2
def zlr:Ann:={ loops:=[] }
noncomputable def zaM:List D→Option D:=denP Try.prog (zaz [(ID.geom_Check,(.pure [0] zar)),(ID.geom_Budget,(.pure [0] zbc))]) zlr [0] ID.geom_Width
theorem zoN:za4 Try.prog ID.geom_Width (.pure [0] zaM):=zas (zaB [zdK,ziQ]) zbB ⟨Try.f103,by kernel_rfl,by kernel_rfl,by kernel_rfl⟩
noncomputable def zgJ:Fact Try.prog:=⟨ID.geom_Width,(.pure [0] zaM),zoN⟩
noncomputable def zj6 (zar:List D→Option D) (zbc:List D→Option D) (a0_0:Int) (a0_1:Int) (a0_2:Int):Option D:=
  zat (zar [D.agg [D.int IntKind.i64 a0_0,D.int IntKind.i64 a0_1,D.int IntKind.i64 a0_2]]) fun r1=>
  asI IntKind.i64 r1 fun i2=>
  brK (i2 != (0:Int))
    (some (D.int IntKind.i64 (0:Int)))
    (zat (zbc [D.agg [D.int IntKind.i64 a0_0,D.int IntKind.i64 a0_1,D.int IntKind.i64 a0_2]]) fun r3=>
    asI IntKind.i64 r3 fun i4=>
    letN (IntKind.wrap IntKind.i64 (a0_1 - i4)) fun n5=>
    some (D.int IntKind.i64 n5))
theorem zuF (zar:List D→Option D) (zbc:List D→Option D) (a0_0:Int) (a0_1:Int) (a0_2:Int):denP Try.prog (zaz [(ID.geom_Check,(.pure [0] zar)),(ID.geom_Budget,(.pure [0] zbc))]) zlr [0] ID.geom_Width [.agg [.int .i64 a0_0,.int .i64 a0_1,.int .i64 a0_2]]=zj6 zar zbc a0_0 a0_1 a0_2:=by kernel_rfl
theorem zqi (a0_0:Int) (a0_1:Int) (a0_2:Int):zaM [.agg [.int .i64 a0_0,.int .i64 a0_1,.int .i64 a0_2]]=zj6 zar zbc a0_0 a0_1 a0_2:=zuF zar zbc a0_0 a0_1 a0_2
def zoA:Ann:={ loops:=[] }
noncomputable def zbP:List D→Option D:=denP Try.prog (zaz [(ID.geom_Check,(.pure [0] zar))]) zoA [0] ID.place_in
theorem zqO:za4 Try.prog ID.place_in (.pure [0] zbP):=zas (zaB [zdK]) zbB ⟨Try.f106,by kernel_rfl,by kernel_rfl,by kernel_rfl⟩
noncomputable def zm1:Fact Try.prog:=⟨ID.place_in,(.pure [0] zbP),zqO⟩
noncomputable def znS (zar:List D→Option D) (a0_0:Int) (a0_1:Int) (a0_2:Int) (a1:Int):Option D:=
  zat (zar [D.agg [D.int IntKind.i64 a0_0,D.int IntKind.i64 a0_1,D.int IntKind.i64 a0_2]]) fun r1=>
  asI IntKind.i64 r1 fun i2=>
  brK (i2 == (0:Int))
    (brK (decide (a1≥(0:Int)))
      (some (D.bool (decide (a1 < (16:Int)))))
      (some (D.bool false)))
    (some (D.bool false))
theorem zxN (zar:List D→Option D) (a0_0:Int) (a0_1:Int) (a0_2:Int) (a1:Int):denP Try.prog (zaz [(ID.geom_Check,(.pure [0] zar))]) zoA [0] ID.place_in [.agg [.int .i64 a0_0,.int .i64 a0_1,.int .i64 a0_2],.int .i64 a1]=znS zar a0_0 a0_1 a0_2 a1:=by kernel_rfl
theorem zs2 (a0_0:Int) (a0_1:Int) (a0_2:Int) (a1:Int):zbP [.agg [.int .i64 a0_0,.int .i64 a0_1,.int .i64 a0_2],.int .i64 a1]=znS zar a0_0 a0_1 a0_2 a1:=zxN zar a0_0 a0_1 a0_2 a1
def ziR:Ann:={ loops:=[] }
noncomputable def zaG:List D→Option D:=denP Try.prog (zaz [(ID.place_in,(.pure [0] zbP))]) ziR [0,0] ID.place_Parity
theorem zm2:za4 Try.prog ID.place_Parity (.pure [0,0] zaG):=zas (zaB [zm1]) zbB ⟨Try.f88,by kernel_rfl,by kernel_rfl,by kernel_rfl⟩
noncomputable def zfm:Fact Try.prog:=⟨ID.place_Parity,(.pure [0,0] zaG),zm2⟩
noncomputable def zhm (zbP:List D→Option D) (a0_0:Int) (a0_1:Int) (a0_2:Int) (a1:Int):Option D:=
  zat (zbP [D.agg [D.int IntKind.i64 a0_0,D.int IntKind.i64 a0_1,D.int IntKind.i64 a0_2],D.int IntKind.i64 a1]) fun r1=>
  asB r1 fun b2=>
  brK (!b2)
    (some (D.tup [D.int IntKind.i64 (-1:Int),D.int IntKind.i64 (-1:Int)]))
    (letN (IntKind.wrap IntKind.i64 (a0_1 - (1:Int))) fun n3=>
    sif (a0_2≠(0:Int)) <|
    letN (IntKind.wrap IntKind.i64 (Int.tdiv a1 a0_2)) fun n4=>
    sif (a0_1≠(0:Int)) <|
    letN (Int.tmod n4 a0_1) fun n5=>
    letN (IntKind.wrap IntKind.i64 (n3 - n5)) fun n6=>
    brK (a0_0 == (5:Int))
      (some (D.tup [D.int IntKind.i64 n6,D.int IntKind.i64 (-1:Int)]))
      (letN (IntKind.wrap IntKind.i64 (n6+(1:Int))) fun n7=>
      sif (a0_1≠(0:Int)) <|
      letN (Int.tmod n7 a0_1) fun n8=>
      some (D.tup [D.int IntKind.i64 n6,D.int IntKind.i64 n8])))
theorem zqP (zbP:List D→Option D) (a0_0:Int) (a0_1:Int) (a0_2:Int) (a1:Int):denP Try.prog (zaz [(ID.place_in,(.pure [0] zbP))]) ziR [0,0] ID.place_Parity [.agg [.int .i64 a0_0,.int .i64 a0_1,.int .i64 a0_2],.int .i64 a1]=zhm zbP a0_0 a0_1 a0_2 a1:=by kernel_rfl
theorem znT (a0_0:Int) (a0_1:Int) (a0_2:Int) (a1:Int):zaG [.agg [.int .i64 a0_0,.int .i64 a0_1,.int .i64 a0_2],.int .i64 a1]=zhm zbP a0_0 a0_1 a0_2 a1:=zqP zbP a0_0 a0_1 a0_2 a1
def zls:Ann:={ loops:=[] }
noncomputable def zbg:List D→Option D:=denP Try.prog (zaz [(ID.place_in,(.pure [0] zbP)),(ID.geom_Width,(.pure [0] zaM)),(ID.place_Parity,(.pure [0,0] zaG)),(ID.geom_Budget,(.pure [0] zbc))]) zls [0] ID.place_Disk
theorem zoO:za4 Try.prog ID.place_Disk (.pure [0] zbg):=zas (zaB [zm1,zgJ,zfm,ziQ]) zbB ⟨Try.f104,by kernel_rfl,by kernel_rfl,by kernel_rfl⟩
noncomputable def zj7:Fact Try.prog:=⟨ID.place_Disk,(.pure [0] zbg),zoO⟩
noncomputable def zj8 (zbP:List D→Option D) (zaM:List D→Option D) (zaG:List D→Option D) (zbc:List D→Option D) (a0_0:Int) (a0_1:Int) (a0_2:Int) (a1:Int) (a2:Int):Option D:=
  zat (zbP [D.agg [D.int IntKind.i64 a0_0,D.int IntKind.i64 a0_1,D.int IntKind.i64 a0_2],D.int IntKind.i64 a1]) fun r1=>
  asB r1 fun b2=>
  brK (!b2)
    (some (D.int IntKind.i64 (-1:Int)))
    (brK (decide (a2 < (0:Int)))
      (some (D.int IntKind.i64 (-1:Int)))
      (zat (zaM [D.agg [D.int IntKind.i64 a0_0,D.int IntKind.i64 a0_1,D.int IntKind.i64 a0_2]]) fun r3=>
      asI IntKind.i64 r3 fun i4=>
      brK (decide (a2≥i4))
        (some (D.int IntKind.i64 (-1:Int)))
        (zat (zaG [D.agg [D.int IntKind.i64 a0_0,D.int IntKind.i64 a0_1,D.int IntKind.i64 a0_2],D.int IntKind.i64 a1]) fun r5=>
        zed r5 fun ts6=>
        zay ([Lf.any,Lf.any]) ts6 fun c7=>
        asI IntKind.i64 c7.fst fun i8=>
        asI IntKind.i64 c7.snd.fst fun i9=>
        zat (zbc [D.agg [D.int IntKind.i64 a0_0,D.int IntKind.i64 a0_1,D.int IntKind.i64 a0_2]]) fun r10=>
        asI IntKind.i64 r10 fun i11=>
        letN (IntKind.wrap IntKind.i64 (i8+i11)) fun n12=>
        letN (IntKind.wrap IntKind.i64 (n12+a2)) fun n13=>
        sif (a0_1≠(0:Int)) <|
        letN (Int.tmod n13 a0_1) fun n14=>
        some (D.int IntKind.i64 n14))))
theorem zuG (zbP:List D→Option D) (zaM:List D→Option D) (zaG:List D→Option D) (zbc:List D→Option D) (a0_0:Int) (a0_1:Int) (a0_2:Int) (a1:Int) (a2:Int):denP Try.prog (zaz [(ID.place_in,(.pure [0] zbP)),(ID.geom_Width,(.pure [0] zaM)),(ID.place_Parity,(.pure [0,0] zaG)),(ID.geom_Budget,(.pure [0] zbc))]) zls [0] ID.place_Disk [.agg [.int .i64 a0_0,.int .i64 a0_1,.int .i64 a0_2],.int .i64 a1,.int .i64 a2]=zj8 zbP zaM zaG zbc a0_0 a0_1 a0_2 a1 a2:=by kernel_rfl
theorem zqj (a0_0:Int) (a0_1:Int) (a0_2:Int) (a1:Int) (a2:Int):zbg [.agg [.int .i64 a0_0,.int .i64 a0_1,.int .i64 a0_2],.int .i64 a1,.int .i64 a2]=zj8 zbP zaM zaG zbc a0_0 a0_1 a0_2 a1 a2:=zuG zbP zaM zaG zbc a0_0 a0_1 a0_2 a1 a2
def zhY:Ann:={ loops:=[(0,[.dead,.dead,.dead,.own 1,.dead,.dead,.val (.cell .lent),.val (.cell (.int .i64)),.val (.cell (.int .i64))])] }
noncomputable def zbA:List D→Option D:=denP Try.prog (zaz []) zhY [1] ID.erase_Missing
theorem zl4:za4 Try.prog ID.erase_Missing (.pure [1] zbA):=zas (zaB []) zbB ⟨Try.f128,by kernel_rfl,by kernel_rfl,by kernel_rfl⟩
noncomputable def zm3:Fact Try.prog:=⟨ID.erase_Missing,(.pure [1] zbA),zl4⟩
noncomputable def zgK (a0:List D):Option D:=
  zcc (α:=(List D×List D×Int×Int×PUnit)×PUnit) (fun again1 ((l2,(l3,(i4,(i5,_)))),_)=>
    brK (decide (i5 < i4))
      (sif ((0:Int)≤i5) <|
      getK l3 (Int.toNat i5) fun d6=>
      asSl d6 fun t7 l8=>
      brK ((↑(List.length l8):Int) == (0:Int))
        (sif (List.length l2+(1:Nat)≤(4294967296:Nat)) <|
        sif (List.length l2=List.length l2) <|
        letN (IntKind.wrap IntKind.i64 (i5+(1:Int))) fun n9=>
        sif (List.length l2+(1:Nat)=List.length (l2++[D.int IntKind.i64 i5])) <|
        again1 (((l2++[D.int IntKind.i64 i5],l3,i4,n9,PUnit.unit),PUnit.unit)))
        (letN (IntKind.wrap IntKind.i64 (i5+(1:Int))) fun n10=>
        sif (List.length l2=List.length l2) <|
        again1 (((l2,l3,i4,n10,PUnit.unit),PUnit.unit))))
      (sif (List.length l2=List.length l2) <|
      sif (List.all l2 D.free=true) <|
      some (D.sl Tag.own l2)))
    ((([],a0,(↑(List.length a0):Int),(0:Int),PUnit.unit),PUnit.unit))
theorem zqk (tga0:Tag) (a0:List D):denP Try.prog (zaz []) zhY [1] ID.erase_Missing [.sl tga0 a0]=zgK (D.lentL a0):=by kernel_rfl
theorem zm4 (tga0:Tag) (a0:List D):zbA [.sl tga0 a0]=zgK (D.lentL a0):=zqk tga0 a0
def ziS:Ann:={ loops:=[],hints:=[(1,.at1 (.int .i64))] }
noncomputable def zaC:List D→Option D:=denP Try.prog (zaz []) ziS [0] ID.erase_fits_1
theorem zm5:za4 Try.prog ID.erase_fits_1 (.pure [0] zaC):=zas (zaB []) zbB ⟨Try.f140,by kernel_rfl,by kernel_rfl,by kernel_rfl⟩
noncomputable def zhZ:Fact Try.prog:=⟨ID.erase_fits_1,(.pure [0] zaC),zm5⟩
noncomputable def zhn (a0:List D) (c0:Int):Option D:=
  brK (decide ((↑(List.length a0):Int) > (0:Int)))
    (some (D.bool ((↑(List.length a0):Int) != c0)))
    (some (D.bool false))
theorem zqQ (tga0:Tag) (a0:List D) (c0:Int):denP Try.prog (zaz []) ziS [0] ID.erase_fits_1 [.sl tga0 a0,.at_ (.int .i64 c0)]=zhn (D.lentL a0) c0:=by kernel_rfl
theorem znU (tga0:Tag) (a0:List D) (c0:Int):zaC [.sl tga0 a0,.at_ (.int .i64 c0)]=zhn (D.lentL a0) c0:=zqQ tga0 a0 c0
def zh0:Ann:={ loops:=[] }
noncomputable def zao:List D→Option D:=denP Try.prog (zaz []) zh0 [0] ID.row_sectors_1
theorem zl5:za4 Try.prog ID.row_sectors_1 (.pure [0] zao):=zas (zaB []) zbB ⟨Try.f135,by kernel_rfl,by kernel_rfl,by kernel_rfl⟩
noncomputable def zeV:Fact Try.prog:=⟨ID.row_sectors_1,(.pure [0] zao),zl5⟩
noncomputable def zgL (a0:List D):Option D:=
  some (D.bool ((↑(List.length a0):Int) != (32:Int)))
theorem zql (tga0:Tag) (a0:List D):denP Try.prog (zaz []) zh0 [0] ID.row_sectors_1 [.sl tga0 a0]=zgL (D.lentL a0):=by kernel_rfl
theorem zm6 (tga0:Tag) (a0:List D):zao [.sl tga0 a0]=zgL (D.lentL a0):=zql tga0 a0
def zcn:List (Nat×Ann):=[(140,{ loops:=[(0,[.val (.cell .lent),.val (.fn1 (140:FuncId) (.int .i64)),.dead,.dead,.dead,.dead,.dead,.val (.cell (.int .i64)),.val (.cell (.int .i64))])] }),(135,{ loops:=[(0,[.val (.cell .lent),.fnc 135,.dead,.dead,.dead,.dead,.dead,.val (.cell (.int .i64)),.val (.cell (.int .i64))])] })]
noncomputable def zah:List D→Option D:=denA Try.prog (zaz [(ID.erase_fits_1,(.pure [0] zaC)),(ID.row_sectors_1,(.pure [0] zao))]) zcn [0] ID.slices_IndexFunc_byte_byte
theorem ze1:za4 Try.prog ID.slices_IndexFunc_byte_byte (.pure [0] zah):=zrG (zaB [zhZ,zeV]) zbB ⟨Try.f143,by kernel_rfl,by kernel_rfl,by kernel_rfl⟩
noncomputable def zfn:Fact Try.prog:=⟨ID.slices_IndexFunc_byte_byte,(.pure [0] zah),ze1⟩
noncomputable def zb6 (zaC:List D→Option D) (zao:List D→Option D) (a0:List D) (c0:Int):Option D:=
  zcc (α:=(List D×Int×Int×Int×PUnit)×PUnit) (fun again1 ((l2,(i3,(i4,(i5,_)))),_)=>
    brK (decide (i5 < i4))
      (sif ((0:Int)≤i5) <|
      getK l2 (Int.toNat i5) fun d6=>
      asSl d6 fun t7 l8=>
      zat (zaC [D.sl t7 l8,D.at_ (D.int IntKind.i64 i3)]) fun r9=>
      asB r9 fun b10=>
      brK b10
        (some (D.int IntKind.i64 i5))
        (letN (IntKind.wrap IntKind.i64 (i5+(1:Int))) fun n11=>
        again1 (((l2,i3,i4,n11,PUnit.unit),PUnit.unit))))
      (some (D.int IntKind.i64 (-1:Int))))
    (((a0,c0,(↑(List.length a0):Int),(0:Int),PUnit.unit),PUnit.unit))
theorem zeE (zaC:List D→Option D) (zao:List D→Option D) (tga0:Tag) (a0:List D) (c0:Int):denA Try.prog (zaz [(ID.erase_fits_1,(.pure [0] zaC)),(ID.row_sectors_1,(.pure [0] zao))]) zcn [0] ID.slices_IndexFunc_byte_byte [.sl tga0 a0,.fn 140 [] [.at_ (.int .i64 c0)]]=zb6 zaC zao (D.lentL a0) c0:=by kernel_rfl
theorem zd9 (tga0:Tag) (a0:List D) (c0:Int):zah [.sl tga0 a0,.fn 140 [] [.at_ (.int .i64 c0)]]=zb6 zaC zao (D.lentL a0) c0:=zeE zaC zao tga0 a0 c0
noncomputable def zbW (zaC:List D→Option D) (zao:List D→Option D) (a0:List D):Option D:=
  zcc (α:=(List D×Int×Int×PUnit)×PUnit) (fun again1 ((l2,(i3,(i4,_))),_)=>
    brK (decide (i4 < i3))
      (sif ((0:Int)≤i4) <|
      getK l2 (Int.toNat i4) fun d5=>
      asSl d5 fun t6 l7=>
      zat (zao [D.sl t6 l7]) fun r8=>
      asB r8 fun b9=>
      brK b9
        (some (D.int IntKind.i64 i4))
        (letN (IntKind.wrap IntKind.i64 (i4+(1:Int))) fun n10=>
        again1 (((l2,i3,n10,PUnit.unit),PUnit.unit))))
      (some (D.int IntKind.i64 (-1:Int))))
    (((a0,(↑(List.length a0):Int),(0:Int),PUnit.unit),PUnit.unit))
theorem zea (zaC:List D→Option D) (zao:List D→Option D) (tga0:Tag) (a0:List D):denA Try.prog (zaz [(ID.erase_fits_1,(.pure [0] zaC)),(ID.row_sectors_1,(.pure [0] zao))]) zcn [0] ID.slices_IndexFunc_byte_byte [.sl tga0 a0,.fn 135 [] []]=zbW zaC zao (D.lentL a0):=by kernel_rfl
theorem zdx (tga0:Tag) (a0:List D):zah [.sl tga0 a0,.fn 135 [] []]=zbW zaC zao (D.lentL a0):=zea zaC zao tga0 a0
def zcb:Ann:={ loops:=[] }
noncomputable def zae:List D→Option D:=denP Try.prog (zaz [(ID.slices_IndexFunc_byte_byte,(.pure [0] zah)),(ID.erase_fits_1,(.pure [0] zaC)),(ID.row_sectors_1,(.pure [0] zao))]) zcb [0] ID.slices_ContainsFunc_byte_byte
theorem zet:za4 Try.prog ID.slices_ContainsFunc_byte_byte (.pure [0] zae):=zas (zaB [zfn,zhZ,zeV]) zbB ⟨Try.f134,by kernel_rfl,by kernel_rfl,by kernel_rfl⟩
noncomputable def zcM:Fact Try.prog:=⟨ID.slices_ContainsFunc_byte_byte,(.pure [0] zae),zet⟩
noncomputable def zbX (zah:List D→Option D) (zaC:List D→Option D) (zao:List D→Option D) (a0:List D) (c0:Int):Option D:=
  zat (zah [D.sl Tag.lent a0,D.fn (140:FuncId) [] [D.at_ (D.int IntKind.i64 c0)]]) fun r1=>
  asI IntKind.i64 r1 fun i2=>
  some (D.bool (decide (i2≥(0:Int))))
theorem zeb (zah:List D→Option D) (zaC:List D→Option D) (zao:List D→Option D) (tga0:Tag) (a0:List D) (c0:Int):denP Try.prog (zaz [(ID.slices_IndexFunc_byte_byte,(.pure [0] zah)),(ID.erase_fits_1,(.pure [0] zaC)),(ID.row_sectors_1,(.pure [0] zao))]) zcb [0] ID.slices_ContainsFunc_byte_byte [.sl tga0 a0,.fn 140 [] [.at_ (.int .i64 c0)]]=zbX zah zaC zao (D.lentL a0) c0:=by kernel_rfl
theorem zdy (tga0:Tag) (a0:List D) (c0:Int):zae [.sl tga0 a0,.fn 140 [] [.at_ (.int .i64 c0)]]=zbX zah zaC zao (D.lentL a0) c0:=zeb zah zaC zao tga0 a0 c0
noncomputable def zbO (zah:List D→Option D) (zaC:List D→Option D) (zao:List D→Option D) (a0:List D):Option D:=
  zat (zah [D.sl Tag.lent a0,D.fn (135:FuncId) [] []]) fun r1=>
  asI IntKind.i64 r1 fun i2=>
  some (D.bool (decide (i2≥(0:Int))))
theorem zdz (zah:List D→Option D) (zaC:List D→Option D) (zao:List D→Option D) (tga0:Tag) (a0:List D):denP Try.prog (zaz [(ID.slices_IndexFunc_byte_byte,(.pure [0] zah)),(ID.erase_fits_1,(.pure [0] zaC)),(ID.row_sectors_1,(.pure [0] zao))]) zcb [0] ID.slices_ContainsFunc_byte_byte [.sl tga0 a0,.fn 135 [] []]=zbO zah zaC zao (D.lentL a0):=by kernel_rfl
theorem zdh (tga0:Tag) (a0:List D):zae [.sl tga0 a0,.fn 135 [] []]=zbO zah zaC zao (D.lentL a0):=zdz zah zaC zao tga0 a0
def zlt:Ann:={ loops:=[] }
noncomputable def zbZ:List D→Option D:=denP Try.prog (zaz [(ID.slices_ContainsFunc_byte_byte,(.pure [0] zae))]) zlt [0] ID.erase_fits
theorem zoP:za4 Try.prog ID.erase_fits (.pure [0] zbZ):=zas (zaB [zcM]) zbB ⟨Try.f129,by kernel_rfl,by kernel_rfl,by kernel_rfl⟩
noncomputable def zqm:Fact Try.prog:=⟨ID.erase_fits,(.pure [0] zbZ),zoP⟩
noncomputable def zj9 (zae:List D→Option D) (a0:Int) (a1:List D):Option D:=
  zat (zae [D.sl Tag.lent a1,D.fn (140:Nat) [] [D.at_ (D.int IntKind.i64 a0)]]) fun r1=>
  asB r1 fun b2=>
  some (D.bool !b2)
theorem zuH (zae:List D→Option D) (tga1:Tag) (a0:Int) (a1:List D):denP Try.prog (zaz [(ID.slices_ContainsFunc_byte_byte,(.pure [0] zae))]) zlt [0] ID.erase_fits [.int .i64 a0,.sl tga1 a1]=zj9 zae a0 (D.lentL a1):=by kernel_rfl
theorem zqn (tga1:Tag) (a0:Int) (a1:List D):zbZ [.int .i64 a0,.sl tga1 a1]=zj9 zae a0 (D.lentL a1):=zuH zae tga1 a0 a1
def ziT:Ann:={ loops:=[(0,[.val (.cell (.int .i64)),.dead,.dead,.dead,.dead,.own 1,.dead,.dead,.dead,.val (.cell .lent),.val (.cell (.int .i64)),.val (.cell (.int .i64))])] }
noncomputable def zbK:List D→Option D:=denP Try.prog (zaz []) ziT [1] ID.erase_filled
theorem zm7:za4 Try.prog ID.erase_filled (.pure [1] zbK):=zas (zaB []) zbB ⟨Try.f130,by kernel_rfl,by kernel_rfl,by kernel_rfl⟩
noncomputable def znV:Fact Try.prog:=⟨ID.erase_filled,(.pure [1] zbK),zm7⟩
noncomputable def zho (a0:Int) (a1:List D):Option D:=
  zcc (α:=(Int×List D×List D×Int×Int×PUnit)×PUnit) (fun again1 ((i2,(l3,(l4,(i5,(i6,_))))),_)=>
    brK (decide (i6 < i5))
      (sif ((0:Int)≤i6) <|
      getK l4 (Int.toNat i6) fun d7=>
      asSl d7 fun t8 l9=>
      sif ((0:Int)≤i2) <|
      sif (i2=i2) <|
      sif (i2*(1:Int)≤(140737488355328:Int)) <|
      sif (i2≤(140737488355328:Int)) <|
      sif ((0:Nat)+Int.toNat i2≤List.length (List.replicate (Int.toNat i2) (D.int IntKind.u8 (0:Int)))) <|
      sif (cells l9=true) <|
      sif ((0:Nat)+Int.toNat i2≤List.length ([]++List.take (Int.toNat i2) l9++List.drop ((0:Nat)+List.length (List.take (Int.toNat i2) l9)) (List.replicate (Int.toNat i2) (D.int IntKind.u8 (0:Int))))) <|
      sif (List.length l3+(1:Nat)≤(4294967296:Nat)) <|
      sif (List.length l3=List.length l3) <|
      letN (IntKind.wrap IntKind.i64 (i6+(1:Int))) fun n10=>
      sif (List.length l3+(1:Nat)=List.length (l3++[D.sl Tag.fresh (cut (0:Nat) (Int.toNat i2) ([]++List.take (Int.toNat i2) l9++List.drop ((0:Nat)+List.length (List.take (Int.toNat i2) l9)) (List.replicate (Int.toNat i2) (D.int IntKind.u8 (0:Int)))))])) <|
      again1 (((i2,l3++[D.sl Tag.fresh (cut (0:Nat) (Int.toNat i2) ([]++List.take (Int.toNat i2) l9++List.drop ((0:Nat)+List.length (List.take (Int.toNat i2) l9)) (List.replicate (Int.toNat i2) (D.int IntKind.u8 (0:Int)))))],l4,i5,n10,PUnit.unit),PUnit.unit)))
      (sif (List.length l3=List.length l3) <|
      sif (List.all l3 D.free=true) <|
      some (D.sl Tag.own l3)))
    (((a0,[],a1,(↑(List.length a1):Int),(0:Int),PUnit.unit),PUnit.unit))
theorem zqR (tga1:Tag) (a0:Int) (a1:List D):denP Try.prog (zaz []) ziT [1] ID.erase_filled [.int .i64 a0,.sl tga1 a1]=zho a0 (D.lentL a1):=by kernel_rfl
theorem znW (tga1:Tag) (a0:Int) (a1:List D):zbK [.int .i64 a0,.sl tga1 a1]=zho a0 (D.lentL a1):=zqR tga1 a0 a1
def zm8:Ann:={ loops:=[] }
noncomputable def zaW:List D→Option D:=denP Try.prog (zaz []) zm8 [0] ID.gf_double
theorem zqo:za4 Try.prog ID.gf_double (.pure [0] zaW):=zas (zaB []) zbB ⟨Try.f144,by kernel_rfl,by kernel_rfl,by kernel_rfl⟩
noncomputable def zhp:Fact Try.prog:=⟨ID.gf_double,(.pure [0] zaW),zqo⟩
noncomputable def zl6 (a0:Int):Option D:=
  brK (decide (a0≥(128:Int)))
    (letN (IntKind.wrap IntKind.u8 (a0*(2:Int))) fun n1=>
    letN (bits BinOp.xor IntKind.u8 n1 (29:Int)) fun n2=>
    some (D.int IntKind.u8 n2))
    (letN (IntKind.wrap IntKind.u8 (a0*(2:Int))) fun n3=>
    some (D.int IntKind.u8 n3))
theorem zvS (a0:Int):denP Try.prog (zaz []) zm8 [0] ID.gf_double [.int .u8 a0]=zl6 a0:=by kernel_rfl
theorem zqS (a0:Int):zaW [.int .u8 a0]=zl6 a0:=zvS a0
def zrR:Ann:={ loops:=[(0,[.val (.cell (.int .u8)),.val (.cell (.int .u8)),.dead,.dead,.dead,.val (.cell (.int .u8))])] }
noncomputable def zej:List D→Option D:=denP Try.prog (zaz [(ID.gf_double,(.pure [0] zaW))]) zrR [0] ID.gf_Mul
theorem zuI:za4 Try.prog ID.gf_Mul (.pure [0] zej):=zas (zaB [zhp]) zbB ⟨Try.f146,by kernel_rfl,by kernel_rfl,by kernel_rfl⟩
noncomputable def zvT:Fact Try.prog:=⟨ID.gf_Mul,(.pure [0] zej),zuI⟩
noncomputable def zs3 (zaW:List D→Option D) (a0:Int) (a1:Int):Option D:=
  zcc (α:=(Int×Int×Int×PUnit)×PUnit) (fun again1 ((i2,(i3,(i4,_))),_)=>
    brK (decide (i3 > (0:Int)))
      (letN (bits BinOp.and IntKind.u8 i3 (1:Int)) fun n5=>
      brK (n5 == (1:Int))
        (letN (bits BinOp.xor IntKind.u8 i4 i2) fun n6=>
        zat (zaW [D.int IntKind.u8 i2]) fun r7=>
        asI IntKind.u8 r7 fun i8=>
        letN (Int.fdiv i3 (2:Int)) fun n9=>
        again1 (((i8,n9,n6,PUnit.unit),PUnit.unit)))
        (zat (zaW [D.int IntKind.u8 i2]) fun r10=>
        asI IntKind.u8 r10 fun i11=>
        letN (Int.fdiv i3 (2:Int)) fun n12=>
        again1 (((i11,n12,i4,PUnit.unit),PUnit.unit))))
      (some (D.int IntKind.u8 i4)))
    (((a0,a1,(0:Int),PUnit.unit),PUnit.unit))
theorem zA5 (zaW:List D→Option D) (a0:Int) (a1:Int):denP Try.prog (zaz [(ID.gf_double,(.pure [0] zaW))]) zrR [0] ID.gf_Mul [.int .u8 a0,.int .u8 a1]=zs3 zaW a0 a1:=by kernel_rfl
theorem zvU (a0:Int) (a1:Int):zej [.int .u8 a0,.int .u8 a1]=zs3 zaW a0 a1:=zA5 zaW a0 a1
def zlu:Ann:={ loops:=[(0,[.dead,.val (.cell (.int .u8)),.dead,.dead,.dead,.own 1,.dead,.dead,.val (.cell .lent),.val (.cell (.int .i64)),.val (.cell (.int .i64))])] }
noncomputable def zaF:List D→Option D:=denP Try.prog (zaz [(ID.gf_Mul,(.pure [0] zej))]) zlu [1] ID.synd_Scale
theorem zoQ:za4 Try.prog ID.synd_Scale (.pure [1] zaF):=zas (zaB [zvT]) zbB ⟨Try.f142,by kernel_rfl,by kernel_rfl,by kernel_rfl⟩
noncomputable def zgM:Fact Try.prog:=⟨ID.synd_Scale,(.pure [1] zaF),zoQ⟩
noncomputable def zka (zej:List D→Option D) (a0:List D) (a1:Int):Option D:=
  zcc (α:=(Int×List D×List D×Int×Int×PUnit)×PUnit) (fun again1 ((i2,(l3,(l4,(i5,(i6,_))))),_)=>
    brK (decide (i6 < i5))
      (sif ((0:Int)≤i6) <|
      getK l4 (Int.toNat i6) fun d7=>
      asI IntKind.u8 d7 fun i8=>
      zat (zej [D.int IntKind.u8 i8,D.int IntKind.u8 i2]) fun r9=>
      asI IntKind.u8 r9 fun i10=>
      sif (List.length l3+(1:Nat)≤(4294967296:Nat)) <|
      sif (List.length l3=List.length l3) <|
      letN (IntKind.wrap IntKind.i64 (i6+(1:Int))) fun n11=>
      sif (List.length l3+(1:Nat)=List.length (l3++[D.int IntKind.u8 i10])) <|
      again1 (((i2,l3++[D.int IntKind.u8 i10],l4,i5,n11,PUnit.unit),PUnit.unit)))
      (sif (List.length l3=List.length l3) <|
      sif (List.all l3 D.free=true) <|
      some (D.sl Tag.own l3)))
    (((a1,[],a0,(↑(List.length a0):Int),(0:Int),PUnit.unit),PUnit.unit))
theorem zuJ (zej:List D→Option D) (tga0:Tag) (a0:List D) (a1:Int):denP Try.prog (zaz [(ID.gf_Mul,(.pure [0] zej))]) zlu [1] ID.synd_Scale [.sl tga0 a0,.int .u8 a1]=zka zej (D.lentL a0) a1:=by kernel_rfl
theorem zqp (tga0:Tag) (a0:List D) (a1:Int):zaF [.sl tga0 a0,.int .u8 a1]=zka zej (D.lentL a0) a1:=zuJ zej tga0 a0 a1
def zoB:Ann:={ loops:=[(1,[.dead,.val (.cell .lent),.dead,.dead,.dead,.own 1,.dead,.dead,.dead,.dead,.dead,.dead,.dead,.val (.cell .lent),.val (.cell (.int .i64)),.val (.cell (.int .i64))])] }
noncomputable def zaH:List D→Option D:=denP Try.prog (zaz []) zoB [1] ID.synd_Add
theorem zqT:za4 Try.prog ID.synd_Add (.pure [1] zaH):=zas (zaB []) zbB ⟨Try.f132,by kernel_rfl,by kernel_rfl,by kernel_rfl⟩
noncomputable def zge:Fact Try.prog:=⟨ID.synd_Add,(.pure [1] zaH),zqT⟩
noncomputable def znX (a0:List D) (a1:List D):Option D:=
  brK ((↑(List.length a0):Int) != (↑(List.length a1):Int))
    (some (D.sl Tag.own []))
    (zcc (α:=(List D×List D×List D×Int×Int×PUnit)×PUnit) (fun again1 ((l2,(l3,(l4,(i5,(i6,_))))),_)=>
      brK (decide (i6 < i5))
        (sif ((0:Int)≤i6) <|
        getK l4 (Int.toNat i6) fun d7=>
        asI IntKind.u8 d7 fun i8=>
        sif ((0:Int)≤i6) <|
        getK l2 (Int.toNat i6) fun d9=>
        asI IntKind.u8 d9 fun i10=>
        letN (bits BinOp.xor IntKind.u8 i8 i10) fun n11=>
        sif (List.length l3+(1:Nat)≤(4294967296:Nat)) <|
        sif (List.length l3=List.length l3) <|
        letN (IntKind.wrap IntKind.i64 (i6+(1:Int))) fun n12=>
        sif (List.length l3+(1:Nat)=List.length (l3++[D.int IntKind.u8 n11])) <|
        again1 (((l2,l3++[D.int IntKind.u8 n11],l4,i5,n12,PUnit.unit),PUnit.unit)))
        (sif (List.length l3=List.length l3) <|
        sif (List.all l3 D.free=true) <|
        some (D.sl Tag.own l3)))
      (((a1,[],a0,(↑(List.length a0):Int),(0:Int),PUnit.unit),PUnit.unit)))
theorem zxO (tga0:Tag) (tga1:Tag) (a0:List D) (a1:List D):denP Try.prog (zaz []) zoB [1] ID.synd_Add [.sl tga0 a0,.sl tga1 a1]=znX (D.lentL a0) (D.lentL a1):=by kernel_rfl
theorem zs4 (tga0:Tag) (tga1:Tag) (a0:List D) (a1:List D):zaH [.sl tga0 a0,.sl tga1 a1]=znX (D.lentL a0) (D.lentL a1):=zxO tga0 tga1 a0 a1
def zrS:Ann:={ loops:=[(0,[.dead,.dead,.dead,.val (.cell (.int .u8)),.dead,.dead,.dead,.val (.cell (.int .i64)),.val (.cell (.int .i64))])] }
noncomputable def zaP:List D→Option D:=denP Try.prog (zaz [(ID.gf_double,(.pure [0] zaW))]) zrS [0] ID.gf_Pow
theorem zuK:za4 Try.prog ID.gf_Pow (.pure [0] zaP):=zas (zaB [zhp]) zbB ⟨Try.f138,by kernel_rfl,by kernel_rfl,by kernel_rfl⟩
noncomputable def zgN:Fact Try.prog:=⟨ID.gf_Pow,(.pure [0] zaP),zuK⟩
noncomputable def zo9 (zaW:List D→Option D) (a0:Int):Option D:=
  letN (Int.tmod a0 (255:Int)) fun n1=>
  letN (IntKind.wrap IntKind.i64 (n1+(255:Int))) fun n2=>
  letN (Int.tmod n2 (255:Int)) fun n3=>
  zcc (α:=(Int×Int×Int×PUnit)×PUnit) (fun again4 ((i5,(i6,(i7,_))),_)=>
    brK (decide (i7 < i6))
      (zat (zaW [D.int IntKind.u8 i5]) fun r8=>
      asI IntKind.u8 r8 fun i9=>
      letN (IntKind.wrap IntKind.i64 (i7+(1:Int))) fun n10=>
      again4 (((i9,i6,n10,PUnit.unit),PUnit.unit)))
      (some (D.int IntKind.u8 i5)))
    ((((1:Int),n3,(0:Int),PUnit.unit),PUnit.unit))
theorem zA6 (zaW:List D→Option D) (a0:Int):denP Try.prog (zaz [(ID.gf_double,(.pure [0] zaW))]) zrS [0] ID.gf_Pow [.int .i64 a0]=zo9 zaW a0:=by kernel_rfl
theorem zqq (a0:Int):zaP [.int .i64 a0]=zo9 zaW a0:=zA6 zaW a0
def zoC:Ann:={ loops:=[] }
noncomputable def zbw:List D→Option D:=denP Try.prog (zaz []) zoC [0] ID.synd_P_1
theorem zqU:za4 Try.prog ID.synd_P_1 (.pure [0] zbw):=zas (zaB []) zbB ⟨Try.f137,by kernel_rfl,by kernel_rfl,by kernel_rfl⟩
noncomputable def zm9:Fact Try.prog:=⟨ID.synd_P_1,(.pure [0] zbw),zqU⟩
noncomputable def zrT (a0:Int):Option D:=
  some (D.int IntKind.u8 (1:Int))
theorem zxP (a0:Int):denP Try.prog (zaz []) zoC [0] ID.synd_P_1 [.int .i64 a0]=zrT a0:=by kernel_rfl
theorem zs5 (a0:Int):zbw [.int .i64 a0]=zrT a0:=zxP a0
def zkb:List (Nat×Ann):=[(137,{ loops:=[(1,[.dead,.fnc 137,.dead,.dead,.dead,.own 1,.dead,.dead,.dead,.dead,.dead,.dead,.dead,.dead,.dead,.dead,.val (.cell .lent),.val (.cell (.int .i64)),.val (.cell (.int .i64))])] }),(138,{ loops:=[(1,[.dead,.fnc 138,.dead,.dead,.dead,.own 1,.dead,.dead,.dead,.dead,.dead,.dead,.dead,.dead,.dead,.dead,.val (.cell .lent),.val (.cell (.int .i64)),.val (.cell (.int .i64))])] })]
noncomputable def zbF:List D→Option D:=denA Try.prog (zaz [(ID.synd_Scale,(.pure [1] zaF)),(ID.synd_Add,(.pure [1] zaH)),(ID.gf_Pow,(.pure [0] zaP)),(ID.synd_P_1,(.pure [0] zbw))]) zkb [1] ID.synd_sum
theorem zqV:za4 Try.prog ID.synd_sum (.pure [1] zbF):=zrG (zaB [zgM,zge,zgN,zm9]) zbB ⟨Try.f136,by kernel_rfl,by kernel_rfl,by kernel_rfl⟩
noncomputable def zna:Fact Try.prog:=⟨ID.synd_sum,(.pure [1] zbF),zqV⟩
noncomputable def ziB (zaF:List D→Option D) (zaH:List D→Option D) (zaP:List D→Option D) (zbw:List D→Option D) (a0:List D):Option D:=
  brK ((↑(List.length a0):Int) == (0:Int))
    (some (D.sl Tag.own []))
    (getK a0 ((0:Nat)) fun d1=>
    asSl d1 fun t2 l3=>
    sif ((↑(List.length l3):Int)=(↑(List.length l3):Int)) <|
    sif ((↑(List.length l3):Int)*(1:Int)≤(140737488355328:Int)) <|
    sif ((↑(List.length l3):Int)≤(140737488355328:Int)) <|
    sif (Int.toNat (↑(List.length l3):Int)=List.length (List.replicate (Int.toNat (↑(List.length l3):Int)) (D.int IntKind.u8 (0:Int)))) <|
    zcc (α:=(List D×List D×Int×Int×PUnit)×PUnit) (fun again4 ((l5,(l6,(i7,(i8,_)))),_)=>
      brK (decide (i8 < i7))
        (sif ((0:Int)≤i8) <|
        getK l6 (Int.toNat i8) fun d9=>
        asSl d9 fun t10 l11=>
        sif ((0:Nat)+List.length l5≤List.length l5) <|
        brK ((↑(List.length l11):Int) != (↑(List.length l5):Int))
          (some (D.sl Tag.own []))
          (zat (zbw [D.int IntKind.i64 i8]) fun r12=>
          asI IntKind.u8 r12 fun i13=>
          zat (zaF [D.sl t10 l11,D.int IntKind.u8 i13]) fun r14=>
          za9 r14 fun l15=>
          sif ((0:Nat)+List.length l5≤List.length l5) <|
          sif ((0:Nat)+List.length l15≤List.length l15) <|
          zat (zaH [D.sl Tag.lent (cut (0:Nat) (List.length l5) l5),D.sl Tag.lent (cut (0:Nat) (List.length l15) l15)]) fun r16=>
          za9 r16 fun l17=>
          letN (IntKind.wrap IntKind.i64 (i8+(1:Int))) fun n18=>
          sif (List.length l17=List.length l17) <|
          again4 (((l17,l6,i7,n18,PUnit.unit),PUnit.unit))))
        (sif (List.length l5=List.length l5) <|
        sif (List.all l5 D.free=true) <|
        some (D.sl Tag.own l5)))
      (((List.replicate (Int.toNat (↑(List.length l3):Int)) (D.int IntKind.u8 (0:Int)),a0,(↑(List.length a0):Int),(0:Int),PUnit.unit),PUnit.unit)))
theorem zs6 (zaF:List D→Option D) (zaH:List D→Option D) (zaP:List D→Option D) (zbw:List D→Option D) (tga0:Tag) (a0:List D):denA Try.prog (zaz [(ID.synd_Scale,(.pure [1] zaF)),(ID.synd_Add,(.pure [1] zaH)),(ID.gf_Pow,(.pure [0] zaP)),(ID.synd_P_1,(.pure [0] zbw))]) zkb [1] ID.synd_sum [.sl tga0 a0,.fn 137 [] []]=ziB zaF zaH zaP zbw (D.lentL a0):=by kernel_rfl
theorem zoR (tga0:Tag) (a0:List D):zbF [.sl tga0 a0,.fn 137 [] []]=ziB zaF zaH zaP zbw (D.lentL a0):=zs6 zaF zaH zaP zbw tga0 a0
noncomputable def ziC (zaF:List D→Option D) (zaH:List D→Option D) (zaP:List D→Option D) (zbw:List D→Option D) (a0:List D):Option D:=
  brK ((↑(List.length a0):Int) == (0:Int))
    (some (D.sl Tag.own []))
    (getK a0 ((0:Nat)) fun d1=>
    asSl d1 fun t2 l3=>
    sif ((↑(List.length l3):Int)=(↑(List.length l3):Int)) <|
    sif ((↑(List.length l3):Int)*(1:Int)≤(140737488355328:Int)) <|
    sif ((↑(List.length l3):Int)≤(140737488355328:Int)) <|
    sif (Int.toNat (↑(List.length l3):Int)=List.length (List.replicate (Int.toNat (↑(List.length l3):Int)) (D.int IntKind.u8 (0:Int)))) <|
    zcc (α:=(List D×List D×Int×Int×PUnit)×PUnit) (fun again4 ((l5,(l6,(i7,(i8,_)))),_)=>
      brK (decide (i8 < i7))
        (sif ((0:Int)≤i8) <|
        getK l6 (Int.toNat i8) fun d9=>
        asSl d9 fun t10 l11=>
        sif ((0:Nat)+List.length l5≤List.length l5) <|
        brK ((↑(List.length l11):Int) != (↑(List.length l5):Int))
          (some (D.sl Tag.own []))
          (zat (zaP [D.int IntKind.i64 i8]) fun r12=>
          asI IntKind.u8 r12 fun i13=>
          zat (zaF [D.sl t10 l11,D.int IntKind.u8 i13]) fun r14=>
          za9 r14 fun l15=>
          sif ((0:Nat)+List.length l5≤List.length l5) <|
          sif ((0:Nat)+List.length l15≤List.length l15) <|
          zat (zaH [D.sl Tag.lent (cut (0:Nat) (List.length l5) l5),D.sl Tag.lent (cut (0:Nat) (List.length l15) l15)]) fun r16=>
          za9 r16 fun l17=>
          letN (IntKind.wrap IntKind.i64 (i8+(1:Int))) fun n18=>
          sif (List.length l17=List.length l17) <|
          again4 (((l17,l6,i7,n18,PUnit.unit),PUnit.unit))))
        (sif (List.length l5=List.length l5) <|
        sif (List.all l5 D.free=true) <|
        some (D.sl Tag.own l5)))
      (((List.replicate (Int.toNat (↑(List.length l3):Int)) (D.int IntKind.u8 (0:Int)),a0,(↑(List.length a0):Int),(0:Int),PUnit.unit),PUnit.unit)))
theorem zs7 (zaF:List D→Option D) (zaH:List D→Option D) (zaP:List D→Option D) (zbw:List D→Option D) (tga0:Tag) (a0:List D):denA Try.prog (zaz [(ID.synd_Scale,(.pure [1] zaF)),(ID.synd_Add,(.pure [1] zaH)),(ID.gf_Pow,(.pure [0] zaP)),(ID.synd_P_1,(.pure [0] zbw))]) zkb [1] ID.synd_sum [.sl tga0 a0,.fn 138 [] []]=ziC zaF zaH zaP zbw (D.lentL a0):=by kernel_rfl
theorem zoS (tga0:Tag) (a0:List D):zbF [.sl tga0 a0,.fn 138 [] []]=ziC zaF zaH zaP zbw (D.lentL a0):=zs7 zaF zaH zaP zbw tga0 a0
def zrU:Ann:={ loops:=[] }
noncomputable def zbQ:List D→Option D:=denP Try.prog (zaz [(ID.synd_sum,(.pure [1] zbF)),(ID.synd_P_1,(.pure [0] zbw))]) zrU [1] ID.synd_P
theorem zuL:za4 Try.prog ID.synd_P (.pure [1] zbQ):=zas (zaB [zna,zm9]) zbB ⟨Try.f110,by kernel_rfl,by kernel_rfl,by kernel_rfl⟩
noncomputable def zl7:Fact Try.prog:=⟨ID.synd_P,(.pure [1] zbQ),zuL⟩
noncomputable def zs8 (zbF:List D→Option D) (zbw:List D→Option D) (a0:List D):Option D:=
  zat (zbF [D.sl Tag.lent a0,D.fn (137:Nat) [] []]) fun r1=>
  za9 r1 fun l2=>
  sif (List.length l2=List.length l2) <|
  sif (List.all l2 D.free=true) <|
  some (D.sl Tag.own l2)
theorem zA7 (zbF:List D→Option D) (zbw:List D→Option D) (tga0:Tag) (a0:List D):denP Try.prog (zaz [(ID.synd_sum,(.pure [1] zbF)),(ID.synd_P_1,(.pure [0] zbw))]) zrU [1] ID.synd_P [.sl tga0 a0]=zs8 zbF zbw (D.lentL a0):=by kernel_rfl
theorem zvV (tga0:Tag) (a0:List D):zbQ [.sl tga0 a0]=zs8 zbF zbw (D.lentL a0):=zA7 zbF zbw tga0 a0
def zrV:Ann:={ loops:=[] }
noncomputable def zbR:List D→Option D:=denP Try.prog (zaz [(ID.synd_sum,(.pure [1] zbF)),(ID.gf_Pow,(.pure [0] zaP))]) zrV [1] ID.synd_Q
theorem zuM:za4 Try.prog ID.synd_Q (.pure [1] zbR):=zas (zaB [zna,zgN]) zbB ⟨Try.f111,by kernel_rfl,by kernel_rfl,by kernel_rfl⟩
noncomputable def zl8:Fact Try.prog:=⟨ID.synd_Q,(.pure [1] zbR),zuM⟩
noncomputable def zs9 (zbF:List D→Option D) (zaP:List D→Option D) (a0:List D):Option D:=
  zat (zbF [D.sl Tag.lent a0,D.fn (138:Nat) [] []]) fun r1=>
  za9 r1 fun l2=>
  sif (List.length l2=List.length l2) <|
  sif (List.all l2 D.free=true) <|
  some (D.sl Tag.own l2)
theorem zA8 (zbF:List D→Option D) (zaP:List D→Option D) (tga0:Tag) (a0:List D):denP Try.prog (zaz [(ID.synd_sum,(.pure [1] zbF)),(ID.gf_Pow,(.pure [0] zaP))]) zrV [1] ID.synd_Q [.sl tga0 a0]=zs9 zbF zaP (D.lentL a0):=by kernel_rfl
theorem zvW (tga0:Tag) (a0:List D):zbR [.sl tga0 a0]=zs9 zbF zaP (D.lentL a0):=zA8 zbF zaP tga0 a0
def zrW:Ann:={ loops:=[(0,[.val (.cell (.int .u8)),.dead,.dead,.val (.cell (.int .u8)),.dead,.val (.cell (.int .i64))])] }
noncomputable def zek:List D→Option D:=denP Try.prog (zaz [(ID.gf_double,(.pure [0] zaW))]) zrW [0] ID.gf_Log
theorem zuN:za4 Try.prog ID.gf_Log (.pure [0] zek):=zas (zaB [zhp]) zbB ⟨Try.f145,by kernel_rfl,by kernel_rfl,by kernel_rfl⟩
noncomputable def zvX:Fact Try.prog:=⟨ID.gf_Log,(.pure [0] zek),zuN⟩
noncomputable def zta (zaW:List D→Option D) (a0:Int):Option D:=
  zcc (α:=(Int×Int×Int×PUnit)×PUnit) (fun again1 ((i2,(i3,(i4,_))),_)=>
    brK (decide (i4 < (255:Int)))
      (brK (i3 == i2)
        (some (D.int IntKind.i64 i4))
        (zat (zaW [D.int IntKind.u8 i3]) fun r5=>
        asI IntKind.u8 r5 fun i6=>
        letN (IntKind.wrap IntKind.i64 (i4+(1:Int))) fun n7=>
        again1 (((i2,i6,n7,PUnit.unit),PUnit.unit))))
      (some (D.int IntKind.i64 (-1:Int))))
    (((a0,(1:Int),(0:Int),PUnit.unit),PUnit.unit))
theorem zA9 (zaW:List D→Option D) (a0:Int):denP Try.prog (zaz [(ID.gf_double,(.pure [0] zaW))]) zrW [0] ID.gf_Log [.int .u8 a0]=zta zaW a0:=by kernel_rfl
theorem zvY (a0:Int):zek [.int .u8 a0]=zta zaW a0:=zA9 zaW a0
def zrX:Ann:={ loops:=[] }
noncomputable def zcs:List D→Option D:=denP Try.prog (zaz [(ID.gf_Log,(.pure [0] zek)),(ID.gf_Pow,(.pure [0] zaP))]) zrX [0] ID.gf_Inv
theorem zuO:za4 Try.prog ID.gf_Inv (.pure [0] zcs):=zas (zaB [zvX,zgN]) zbB ⟨Try.f141,by kernel_rfl,by kernel_rfl,by kernel_rfl⟩
noncomputable def zqr:Fact Try.prog:=⟨ID.gf_Inv,(.pure [0] zcs),zuO⟩
noncomputable def ztb (zek:List D→Option D) (zaP:List D→Option D) (a0:Int):Option D:=
  brK (a0 == (0:Int))
    (some (D.int IntKind.u8 (0:Int)))
    (zat (zek [D.int IntKind.u8 a0]) fun r1=>
    asI IntKind.i64 r1 fun i2=>
    letN (IntKind.wrap IntKind.i64 ((255:Int) - i2)) fun n3=>
    zat (zaP [D.int IntKind.i64 n3]) fun r4=>
    asI IntKind.u8 r4 fun i5=>
    some (D.int IntKind.u8 i5))
theorem zBa (zek:List D→Option D) (zaP:List D→Option D) (a0:Int):denP Try.prog (zaz [(ID.gf_Log,(.pure [0] zek)),(ID.gf_Pow,(.pure [0] zaP))]) zrX [0] ID.gf_Inv [.int .u8 a0]=ztb zek zaP a0:=by kernel_rfl
theorem zvZ (a0:Int):zcs [.int .u8 a0]=ztb zek zaP a0:=zBa zek zaP a0
def znb:Ann:={ loops:=[] }
noncomputable def zcx:List D→Option D:=denP Try.prog (zaz [(ID.synd_P,(.pure [1] zbQ)),(ID.synd_Add,(.pure [1] zaH)),(ID.synd_Q,(.pure [1] zbR)),(ID.gf_Pow,(.pure [0] zaP)),(ID.gf_Inv,(.pure [0] zcs)),(ID.synd_Scale,(.pure [1] zaF))]) znb [1,1] ID.erase_two
theorem zqs:za4 Try.prog ID.erase_two (.pure [1,1] zcx):=zas (zaB [zl7,zge,zl8,zgN,zqr,zgM]) zbB ⟨Try.f131,by kernel_rfl,by kernel_rfl,by kernel_rfl⟩
noncomputable def zqW:Fact Try.prog:=⟨ID.erase_two,(.pure [1,1] zcx),zqs⟩
noncomputable def zl9 (zbQ:List D→Option D) (zaH:List D→Option D) (zbR:List D→Option D) (zaP:List D→Option D) (zcs:List D→Option D) (zaF:List D→Option D) (a0:List D) (a1:List D) (a2:List D) (a3:Int) (a4:Int):Option D:=
  zat (zbQ [D.sl Tag.lent a2]) fun r1=>
  za9 r1 fun l2=>
  sif ((0:Nat)+List.length l2≤List.length l2) <|
  zat (zaH [D.sl Tag.lent a0,D.sl Tag.lent (cut (0:Nat) (List.length l2) l2)]) fun r3=>
  za9 r3 fun l4=>
  zat (zbR [D.sl Tag.lent a2]) fun r5=>
  za9 r5 fun l6=>
  sif ((0:Nat)+List.length l6≤List.length l6) <|
  zat (zaH [D.sl Tag.lent a1,D.sl Tag.lent (cut (0:Nat) (List.length l6) l6)]) fun r7=>
  za9 r7 fun l8=>
  zat (zaP [D.int IntKind.i64 a3]) fun r9=>
  asI IntKind.u8 r9 fun i10=>
  zat (zaP [D.int IntKind.i64 a4]) fun r11=>
  asI IntKind.u8 r11 fun i12=>
  letN (bits BinOp.xor IntKind.u8 i10 i12) fun n13=>
  zat (zcs [D.int IntKind.u8 n13]) fun r14=>
  asI IntKind.u8 r14 fun i15=>
  zat (zaP [D.int IntKind.i64 a4]) fun r16=>
  asI IntKind.u8 r16 fun i17=>
  sif ((0:Nat)+List.length l4≤List.length l4) <|
  zat (zaF [D.sl Tag.lent (cut (0:Nat) (List.length l4) l4),D.int IntKind.u8 i17]) fun r18=>
  za9 r18 fun l19=>
  sif ((0:Nat)+List.length l8≤List.length l8) <|
  sif ((0:Nat)+List.length l19≤List.length l19) <|
  zat (zaH [D.sl Tag.lent (cut (0:Nat) (List.length l8) l8),D.sl Tag.lent (cut (0:Nat) (List.length l19) l19)]) fun r20=>
  za9 r20 fun l21=>
  sif ((0:Nat)+List.length l21≤List.length l21) <|
  zat (zaF [D.sl Tag.lent (cut (0:Nat) (List.length l21) l21),D.int IntKind.u8 i15]) fun r22=>
  za9 r22 fun l23=>
  sif ((0:Nat)+List.length l4≤List.length l4) <|
  sif ((0:Nat)+List.length l23≤List.length l23) <|
  zat (zaH [D.sl Tag.lent (cut (0:Nat) (List.length l4) l4),D.sl Tag.lent (cut (0:Nat) (List.length l23) l23)]) fun r24=>
  za9 r24 fun l25=>
  sif (List.length l23=List.length l23) <|
  sif (List.all l23 D.free=true) <|
  sif (List.length l25=List.length l25) <|
  sif (List.all l25 D.free=true) <|
  some (D.tup [D.sl Tag.own l23,D.sl Tag.own l25])
theorem zv0 (zbQ:List D→Option D) (zaH:List D→Option D) (zbR:List D→Option D) (zaP:List D→Option D) (zcs:List D→Option D) (zaF:List D→Option D) (tga0:Tag) (tga1:Tag) (tga2:Tag) (a0:List D) (a1:List D) (a2:List D) (a3:Int) (a4:Int):denP Try.prog (zaz [(ID.synd_P,(.pure [1] zbQ)),(ID.synd_Add,(.pure [1] zaH)),(ID.synd_Q,(.pure [1] zbR)),(ID.gf_Pow,(.pure [0] zaP)),(ID.gf_Inv,(.pure [0] zcs)),(ID.synd_Scale,(.pure [1] zaF))]) znb [1,1] ID.erase_two [.sl tga0 a0,.sl tga1 a1,.sl tga2 a2,.int .i64 a3,.int .i64 a4]=zl9 zbQ zaH zbR zaP zcs zaF (D.lentL a0) (D.lentL a1) (D.lentL a2) a3 a4:=by kernel_rfl
theorem zqX (tga0:Tag) (tga1:Tag) (tga2:Tag) (a0:List D) (a1:List D) (a2:List D) (a3:Int) (a4:Int):zcx [.sl tga0 a0,.sl tga1 a1,.sl tga2 a2,.int .i64 a3,.int .i64 a4]=zl9 zbQ zaH zbR zaP zcs zaF (D.lentL a0) (D.lentL a1) (D.lentL a2) a3 a4:=zv0 zbQ zaH zbR zaP zcs zaF tga0 tga1 tga2 a0 a1 a2 a3 a4
def znc:Ann:={ loops:=[] }
noncomputable def zch:List D→Option D:=denP Try.prog (zaz [(ID.synd_Q,(.pure [1] zbR)),(ID.synd_Add,(.pure [1] zaH)),(ID.gf_Pow,(.pure [0] zaP)),(ID.gf_Inv,(.pure [0] zcs)),(ID.synd_Scale,(.pure [1] zaF))]) znc [1] ID.erase_byQ
theorem zqt:za4 Try.prog ID.erase_byQ (.pure [1] zch):=zas (zaB [zl8,zge,zgN,zqr,zgM]) zbB ⟨Try.f133,by kernel_rfl,by kernel_rfl,by kernel_rfl⟩
noncomputable def zqY:Fact Try.prog:=⟨ID.erase_byQ,(.pure [1] zch),zqt⟩
noncomputable def zma (zbR:List D→Option D) (zaH:List D→Option D) (zaP:List D→Option D) (zcs:List D→Option D) (zaF:List D→Option D) (a0:List D) (a1:List D) (a2:Int):Option D:=
  zat (zbR [D.sl Tag.lent a1]) fun r1=>
  za9 r1 fun l2=>
  sif ((0:Nat)+List.length l2≤List.length l2) <|
  zat (zaH [D.sl Tag.lent a0,D.sl Tag.lent (cut (0:Nat) (List.length l2) l2)]) fun r3=>
  za9 r3 fun l4=>
  zat (zaP [D.int IntKind.i64 a2]) fun r5=>
  asI IntKind.u8 r5 fun i6=>
  zat (zcs [D.int IntKind.u8 i6]) fun r7=>
  asI IntKind.u8 r7 fun i8=>
  sif ((0:Nat)+List.length l4≤List.length l4) <|
  zat (zaF [D.sl Tag.lent (cut (0:Nat) (List.length l4) l4),D.int IntKind.u8 i8]) fun r9=>
  za9 r9 fun l10=>
  sif (List.length l10=List.length l10) <|
  sif (List.all l10 D.free=true) <|
  some (D.sl Tag.own l10)
theorem zv1 (zbR:List D→Option D) (zaH:List D→Option D) (zaP:List D→Option D) (zcs:List D→Option D) (zaF:List D→Option D) (tga0:Tag) (tga1:Tag) (a0:List D) (a1:List D) (a2:Int):denP Try.prog (zaz [(ID.synd_Q,(.pure [1] zbR)),(ID.synd_Add,(.pure [1] zaH)),(ID.gf_Pow,(.pure [0] zaP)),(ID.gf_Inv,(.pure [0] zcs)),(ID.synd_Scale,(.pure [1] zaF))]) znc [1] ID.erase_byQ [.sl tga0 a0,.sl tga1 a1,.int .i64 a2]=zma zbR zaH zaP zcs zaF (D.lentL a0) (D.lentL a1) a2:=by kernel_rfl
theorem zqZ (tga0:Tag) (tga1:Tag) (a0:List D) (a1:List D) (a2:Int):zch [.sl tga0 a0,.sl tga1 a1,.int .i64 a2]=zma zbR zaH zaP zcs zaF (D.lentL a0) (D.lentL a1) a2:=zv1 zbR zaH zaP zcs zaF tga0 tga1 a0 a1 a2
def zkc:Ann:={ loops:=[] }
noncomputable def zbU:List D→Option D:=denP Try.prog (zaz [(ID.erase_Missing,(.pure [1] zbA)),(ID.erase_fits,(.pure [0] zbZ)),(ID.erase_filled,(.pure [1] zbK)),(ID.erase_two,(.pure [1,1] zcx)),(ID.synd_P,(.pure [1] zbQ)),(ID.synd_Add,(.pure [1] zaH)),(ID.erase_byQ,(.pure [1] zch))]) zkc [1,0] ID.erase_Solve
theorem znY:za4 Try.prog ID.erase_Solve (.pure [1,0] zbU):=zas (zaB [zm3,zqm,znV,zqW,zl7,zge,zqY]) zbB ⟨Try.f105,by kernel_rfl,by kernel_rfl,by kernel_rfl⟩
noncomputable def zoT:Fact Try.prog:=⟨ID.erase_Solve,(.pure [1,0] zbU),znY⟩
noncomputable def ziD (zbA:List D→Option D) (zbZ:List D→Option D) (zbK:List D→Option D) (zcx:List D→Option D) (zbQ:List D→Option D) (zaH:List D→Option D) (zch:List D→Option D) (a0:Int) (a1:List D) (a2:List D) (a3:List D):Option D:=
  zat (zbA [D.sl Tag.lent a3]) fun r1=>
  za9 r1 fun l2=>
  brK (decide (a0 < (1:Int)))
    (some (D.tup [D.sl Tag.own [],D.bool false]))
    (brK (decide ((↑(List.length a3):Int) < (1:Int)))
      (some (D.tup [D.sl Tag.own [],D.bool false]))
      (brK (decide ((↑(List.length a3):Int) > (8:Int)))
        (some (D.tup [D.sl Tag.own [],D.bool false]))
        (zat (zbZ [D.int IntKind.i64 a0,D.sl Tag.lent a3]) fun r3=>
        asB r3 fun b4=>
        brK (!b4)
          (some (D.tup [D.sl Tag.own [],D.bool false]))
          (zat (zbZ [D.int IntKind.i64 a0,D.sl Tag.full [D.sl Tag.lent a1,D.sl Tag.lent a2]]) fun r5=>
          asB r5 fun b6=>
          brK (!b6)
            (some (D.tup [D.sl Tag.own [],D.bool false]))
            (sif ((0:Nat)+List.length l2≤List.length l2) <|
            zat (zbA [D.sl Tag.full [D.sl Tag.lent a1,D.sl Tag.lent a2]]) fun r7=>
            za9 r7 fun l8=>
            sif ((0:Nat)+List.length l8≤List.length l8) <|
            letN (IntKind.wrap IntKind.i64 ((↑(List.length l2):Int)+(↑(List.length l8):Int))) fun n9=>
            brK (decide (n9 > (2:Int)))
              (some (D.tup [D.sl Tag.own [],D.bool false]))
              (zat (zbK [D.int IntKind.i64 a0,D.sl Tag.lent a3]) fun r10=>
              za9 r10 fun l11=>
              sif ((0:Nat)+List.length l2≤List.length l2) <|
              brK ((↑(List.length l2):Int) == (2:Int))
                (sif ((0:Nat) < List.length l2) <|
                getK l2 ((0:Nat)) fun d12=>
                asI IntKind.i64 d12 fun i13=>
                sif ((1:Nat) < List.length l2) <|
                getK l2 ((1:Nat)) fun d14=>
                asI IntKind.i64 d14 fun i15=>
                sif ((0:Nat) < List.length l2) <|
                getK l2 ((0:Nat)) fun d16=>
                asI IntKind.i64 d16 fun i17=>
                sif ((1:Nat) < List.length l2) <|
                getK l2 ((1:Nat)) fun d18=>
                asI IntKind.i64 d18 fun i19=>
                sif ((0:Nat)+List.length l11≤List.length l11) <|
                zat (zcx [D.sl Tag.lent a1,D.sl Tag.lent a2,D.sl Tag.lent (cut (0:Nat) (List.length l11) l11),D.int IntKind.i64 i17,D.int IntKind.i64 i19]) fun r20=>
                zed r20 fun ts21=>
                zay ([Lf.any,Lf.any]) ts21 fun c22=>
                za9 c22.fst fun l23=>
                za9 c22.snd.fst fun l24=>
                sif ((0:Int)≤i13) <|
                sif (Int.toNat i13 < List.length l11) <|
                sif ((0:Nat)+List.length l23≤List.length l23) <|
                getK l11 ((0:Nat)+Int.toNat i13) fun d25=>
                sif ((0:Nat)+List.length l23≤List.length l23) <|
                sif (D.isAgg d25=false) <|
                sif ((0:Int)≤i15) <|
                sif (Int.toNat i15 < List.length l11) <|
                sif ((0:Nat)+List.length l24≤List.length l24) <|
                getK (List.set l11 ((0:Nat)+Int.toNat i13) (D.sl Tag.fresh (cut (0:Nat) (List.length l23) l23))) ((0:Nat)+Int.toNat i15) fun d26=>
                sif ((0:Nat)+List.length l24≤List.length l24) <|
                sif (D.isAgg d26=false) <|
                sif (List.length l11=List.length (List.set (List.set l11 ((0:Nat)+Int.toNat i13) (D.sl Tag.fresh (cut (0:Nat) (List.length l23) l23))) ((0:Nat)+Int.toNat i15) (D.sl Tag.fresh (cut (0:Nat) (List.length l24) l24)))) <|
                sif (List.all (List.set (List.set l11 ((0:Nat)+Int.toNat i13) (D.sl Tag.fresh (cut (0:Nat) (List.length l23) l23))) ((0:Nat)+Int.toNat i15) (D.sl Tag.fresh (cut (0:Nat) (List.length l24) l24))) D.free=true) <|
                some (D.tup [D.sl Tag.own (List.set (List.set l11 ((0:Nat)+Int.toNat i13) (D.sl Tag.fresh (cut (0:Nat) (List.length l23) l23))) ((0:Nat)+Int.toNat i15) (D.sl Tag.fresh (cut (0:Nat) (List.length l24) l24))),D.bool true]))
                (sif ((0:Nat)+List.length l2≤List.length l2) <|
                brK ((↑(List.length l2):Int) == (1:Int))
                  (brK (decide ((↑(List.length a1):Int) > (0:Int)))
                    (sif ((0:Nat) < List.length l2) <|
                    getK l2 ((0:Nat)) fun d27=>
                    asI IntKind.i64 d27 fun i28=>
                    sif ((0:Nat)+List.length l11≤List.length l11) <|
                    zat (zbQ [D.sl Tag.lent (cut (0:Nat) (List.length l11) l11)]) fun r29=>
                    za9 r29 fun l30=>
                    sif ((0:Nat)+List.length l30≤List.length l30) <|
                    zat (zaH [D.sl Tag.lent a1,D.sl Tag.lent (cut (0:Nat) (List.length l30) l30)]) fun r31=>
                    za9 r31 fun l32=>
                    sif ((0:Int)≤i28) <|
                    sif (Int.toNat i28 < List.length l11) <|
                    sif ((0:Nat)+List.length l32≤List.length l32) <|
                    getK l11 ((0:Nat)+Int.toNat i28) fun d33=>
                    sif ((0:Nat)+List.length l32≤List.length l32) <|
                    sif (D.isAgg d33=false) <|
                    sif (List.length l11=List.length (List.set l11 ((0:Nat)+Int.toNat i28) (D.sl Tag.fresh (cut (0:Nat) (List.length l32) l32)))) <|
                    sif (List.all (List.set l11 ((0:Nat)+Int.toNat i28) (D.sl Tag.fresh (cut (0:Nat) (List.length l32) l32))) D.free=true) <|
                    some (D.tup [D.sl Tag.own (List.set l11 ((0:Nat)+Int.toNat i28) (D.sl Tag.fresh (cut (0:Nat) (List.length l32) l32))),D.bool true]))
                    (sif ((0:Nat)+List.length l2≤List.length l2) <|
                    brK ((↑(List.length l2):Int) == (1:Int))
                      (sif ((0:Nat) < List.length l2) <|
                      getK l2 ((0:Nat)) fun d34=>
                      asI IntKind.i64 d34 fun i35=>
                      sif ((0:Nat) < List.length l2) <|
                      getK l2 ((0:Nat)) fun d36=>
                      asI IntKind.i64 d36 fun i37=>
                      sif ((0:Nat)+List.length l11≤List.length l11) <|
                      zat (zch [D.sl Tag.lent a2,D.sl Tag.lent (cut (0:Nat) (List.length l11) l11),D.int IntKind.i64 i37]) fun r38=>
                      za9 r38 fun l39=>
                      sif ((0:Int)≤i35) <|
                      sif (Int.toNat i35 < List.length l11) <|
                      sif ((0:Nat)+List.length l39≤List.length l39) <|
                      getK l11 ((0:Nat)+Int.toNat i35) fun d40=>
                      sif ((0:Nat)+List.length l39≤List.length l39) <|
                      sif (D.isAgg d40=false) <|
                      sif (List.length l11=List.length (List.set l11 ((0:Nat)+Int.toNat i35) (D.sl Tag.fresh (cut (0:Nat) (List.length l39) l39)))) <|
                      sif (List.all (List.set l11 ((0:Nat)+Int.toNat i35) (D.sl Tag.fresh (cut (0:Nat) (List.length l39) l39))) D.free=true) <|
                      some (D.tup [D.sl Tag.own (List.set l11 ((0:Nat)+Int.toNat i35) (D.sl Tag.fresh (cut (0:Nat) (List.length l39) l39))),D.bool true]))
                      (sif (List.length l11=List.length l11) <|
                      sif (List.all l11 D.free=true) <|
                      some (D.tup [D.sl Tag.own l11,D.bool true]))))
                  (sif ((0:Nat)+List.length l2≤List.length l2) <|
                  brK ((↑(List.length l2):Int) == (1:Int))
                    (sif ((0:Nat) < List.length l2) <|
                    getK l2 ((0:Nat)) fun d41=>
                    asI IntKind.i64 d41 fun i42=>
                    sif ((0:Nat) < List.length l2) <|
                    getK l2 ((0:Nat)) fun d43=>
                    asI IntKind.i64 d43 fun i44=>
                    sif ((0:Nat)+List.length l11≤List.length l11) <|
                    zat (zch [D.sl Tag.lent a2,D.sl Tag.lent (cut (0:Nat) (List.length l11) l11),D.int IntKind.i64 i44]) fun r45=>
                    za9 r45 fun l46=>
                    sif ((0:Int)≤i42) <|
                    sif (Int.toNat i42 < List.length l11) <|
                    sif ((0:Nat)+List.length l46≤List.length l46) <|
                    getK l11 ((0:Nat)+Int.toNat i42) fun d47=>
                    sif ((0:Nat)+List.length l46≤List.length l46) <|
                    sif (D.isAgg d47=false) <|
                    sif (List.length l11=List.length (List.set l11 ((0:Nat)+Int.toNat i42) (D.sl Tag.fresh (cut (0:Nat) (List.length l46) l46)))) <|
                    sif (List.all (List.set l11 ((0:Nat)+Int.toNat i42) (D.sl Tag.fresh (cut (0:Nat) (List.length l46) l46))) D.free=true) <|
                    some (D.tup [D.sl Tag.own (List.set l11 ((0:Nat)+Int.toNat i42) (D.sl Tag.fresh (cut (0:Nat) (List.length l46) l46))),D.bool true]))
                    (sif (List.length l11=List.length l11) <|
                    sif (List.all l11 D.free=true) <|
                    some (D.tup [D.sl Tag.own l11,D.bool true]))))))))))
theorem ztc (zbA:List D→Option D) (zbZ:List D→Option D) (zbK:List D→Option D) (zcx:List D→Option D) (zbQ:List D→Option D) (zaH:List D→Option D) (zch:List D→Option D) (tga1:Tag) (tga2:Tag) (tga3:Tag) (a0:Int) (a1:List D) (a2:List D) (a3:List D):denP Try.prog (zaz [(ID.erase_Missing,(.pure [1] zbA)),(ID.erase_fits,(.pure [0] zbZ)),(ID.erase_filled,(.pure [1] zbK)),(ID.erase_two,(.pure [1,1] zcx)),(ID.synd_P,(.pure [1] zbQ)),(ID.synd_Add,(.pure [1] zaH)),(ID.erase_byQ,(.pure [1] zch))]) zkc [1,0] ID.erase_Solve [.int .i64 a0,.sl tga1 a1,.sl tga2 a2,.sl tga3 a3]=ziD zbA zbZ zbK zcx zbQ zaH zch a0 (D.lentL a1) (D.lentL a2) (D.lentL a3):=by kernel_rfl
theorem zoU (tga1:Tag) (tga2:Tag) (tga3:Tag) (a0:Int) (a1:List D) (a2:List D) (a3:List D):zbU [.int .i64 a0,.sl tga1 a1,.sl tga2 a2,.sl tga3 a3]=ziD zbA zbZ zbK zcx zbQ zaH zch a0 (D.lentL a1) (D.lentL a2) (D.lentL a3):=ztc zbA zbZ zbK zcx zbQ zaH zch tga1 tga2 tga3 a0 a1 a2 a3
def zoD:Ann:={ loops:=[(1,[.dead,.val (.cell (.int .i64)),.val (.cell .lent),.box true [(.int .i64),(.int .i64),(.int .i64)],.dead,.dead,.dead,.dead,.own 1,.dead,.dead,.dead,.dead,.dead,.dead,.dead,.dead,.dead,.dead,.dead,.dead,.dead,.dead,.dead,.val (.cell (.int .i64)),.val (.cell (.int .i64))])] }
noncomputable def zcQ:List D→Option D:=denP Try.prog (zaz [(ID.row_in,(.pure [0] zcr)),(ID.geom_Width,(.pure [0] zaM)),(ID.place_Disk,(.pure [0] zbg)),(ID.place_Parity,(.pure [0,0] zaG)),(ID.erase_Solve,(.pure [1,0] zbU))]) zoD [1,0] ID.row_Take
theorem zq0:za4 Try.prog ID.row_Take (.pure [1,0] zcQ):=zas (zaB [zqh,zgJ,zj7,zfm,zoT]) zbB ⟨Try.f71,by kernel_rfl,by kernel_rfl,by kernel_rfl⟩
noncomputable def ztd:Fact Try.prog:=⟨ID.row_Take,(.pure [1,0] zcQ),zq0⟩
noncomputable def znZ (zcr:List D→Option D) (zaM:List D→Option D) (zbg:List D→Option D) (zaG:List D→Option D) (zbU:List D→Option D) (a0_0:Int) (a0_1:Int) (a0_2:Int) (a1:Int) (a2:List D):Option D:=
  zat (zcr [D.agg [D.int IntKind.i64 a0_0,D.int IntKind.i64 a0_1,D.int IntKind.i64 a0_2],D.int IntKind.i64 a1]) fun r1=>
  asB r1 fun b2=>
  brK (!b2)
    (some (D.tup [D.sl Tag.own [],D.bool false]))
    (brK ((↑(List.length a2):Int) != a0_1)
      (some (D.tup [D.sl Tag.own [],D.bool false]))
      (zat (zaM [D.agg [D.int IntKind.i64 a0_0,D.int IntKind.i64 a0_1,D.int IntKind.i64 a0_2]]) fun r3=>
      asI IntKind.i64 r3 fun i4=>
      zcc (α:=(Int×List D×(Int×Int×Int×PUnit)×List D×Int×Int×PUnit)×PUnit) (fun again5 ((i6,(l7,((i8,(i9,(i10,_))),(l11,(i12,(i13,_)))))),_)=>
        brK (decide (i13 < i12))
          (zat (zbg [D.agg [D.int IntKind.i64 i8,D.int IntKind.i64 i9,D.int IntKind.i64 i10],D.int IntKind.i64 i6,D.int IntKind.i64 i13]) fun r14=>
          asI IntKind.i64 r14 fun i15=>
          sif ((0:Int)≤i15) <|
          getK l7 (Int.toNat i15) fun d16=>
          asSl d16 fun t17 l18=>
          sif (List.length l11+(1:Nat)≤(4294967296:Nat)) <|
          sif (List.length l11=List.length l11) <|
          letN (IntKind.wrap IntKind.i64 (i13+(1:Int))) fun n19=>
          sif (List.length l11+(1:Nat)=List.length (l11++[D.sl t17 l18])) <|
          again5 (((i6,l7,(i8,i9,i10,PUnit.unit),l11++[D.sl t17 l18],i12,n19,PUnit.unit),PUnit.unit)))
          (zat (zaG [D.agg [D.int IntKind.i64 i8,D.int IntKind.i64 i9,D.int IntKind.i64 i10],D.int IntKind.i64 i6]) fun r20=>
          zed r20 fun ts21=>
          zay ([Lf.any,Lf.any]) ts21 fun c22=>
          asI IntKind.i64 c22.fst fun i23=>
          asI IntKind.i64 c22.snd.fst fun i24=>
          brK (decide (i24 < (0:Int)))
            (sif ((0:Int)≤i23) <|
            getK l7 (Int.toNat i23) fun d25=>
            asSl d25 fun t26 l27=>
            sif ((0:Nat)+List.length l11≤List.length l11) <|
            zat (zbU [D.int IntKind.i64 (32:Int),D.sl t26 l27,D.sl Tag.nil [],D.sl Tag.lent (cut (0:Nat) (List.length l11) l11)]) fun r28=>
            zed r28 fun ts29=>
            zay ([Lf.any,Lf.any]) ts29 fun c30=>
            za9 c30.fst fun l31=>
            asB c30.snd.fst fun b32=>
            sif (List.length l31=List.length l31) <|
            sif (List.all l31 D.free=true) <|
            some (D.tup [D.sl Tag.own l31,D.bool b32]))
            (sif ((0:Int)≤i23) <|
            getK l7 (Int.toNat i23) fun d33=>
            asSl d33 fun t34 l35=>
            sif ((0:Int)≤i24) <|
            getK l7 (Int.toNat i24) fun d36=>
            asSl d36 fun t37 l38=>
            sif ((0:Nat)+List.length l11≤List.length l11) <|
            zat (zbU [D.int IntKind.i64 (32:Int),D.sl t34 l35,D.sl t37 l38,D.sl Tag.lent (cut (0:Nat) (List.length l11) l11)]) fun r39=>
            zed r39 fun ts40=>
            zay ([Lf.any,Lf.any]) ts40 fun c41=>
            za9 c41.fst fun l42=>
            asB c41.snd.fst fun b43=>
            sif (List.length l42=List.length l42) <|
            sif (List.all l42 D.free=true) <|
            some (D.tup [D.sl Tag.own l42,D.bool b43]))))
        (((a1,a2,(a0_0,a0_1,a0_2,PUnit.unit),[],i4,(0:Int),PUnit.unit),PUnit.unit))))
theorem zxQ (zcr:List D→Option D) (zaM:List D→Option D) (zbg:List D→Option D) (zaG:List D→Option D) (zbU:List D→Option D) (tga2:Tag) (a0_0:Int) (a0_1:Int) (a0_2:Int) (a1:Int) (a2:List D):denP Try.prog (zaz [(ID.row_in,(.pure [0] zcr)),(ID.geom_Width,(.pure [0] zaM)),(ID.place_Disk,(.pure [0] zbg)),(ID.place_Parity,(.pure [0,0] zaG)),(ID.erase_Solve,(.pure [1,0] zbU))]) zoD [1,0] ID.row_Take [.agg [.int .i64 a0_0,.int .i64 a0_1,.int .i64 a0_2],.int .i64 a1,.sl tga2 a2]=znZ zcr zaM zbg zaG zbU a0_0 a0_1 a0_2 a1 (D.lentL a2):=by kernel_rfl
theorem zte (tga2:Tag) (a0_0:Int) (a0_1:Int) (a0_2:Int) (a1:Int) (a2:List D):zcQ [.agg [.int .i64 a0_0,.int .i64 a0_1,.int .i64 a0_2],.int .i64 a1,.sl tga2 a2]=znZ zcr zaM zbg zaG zbU a0_0 a0_1 a0_2 a1 (D.lentL a2):=zxQ zcr zaM zbg zaG zbU tga2 a0_0 a0_1 a0_2 a1 a2
def zkd:Ann:={ loops:=[(1,[.val (.cell (.hnd (3840:Nat))),.val (.cell .lent),.dead,.val (.cell (.int .i64)),.dead,.dead,.box true [(.int .i64),(.int .i64),(.int .i64)],.dead,.dead,.dead,.own 1,.dead,.dead,.dead,.dead,.dead,.dead,.dead,.dead,.dead,.dead,.dead,.dead,.dead,.dead,.dead,.dead,.dead,.dead,.dead,.dead,.val (.cell (.int .i64)),.val (.cell (.int .i64))])],ks:=[(3840,false),(7649,false)] }
noncomputable def zaQ:List D→List Tb→Option Ans:=denS Try.prog (zaz [(ID.geom_Check,(.pure [0] zar)),(ID.stripe_up,(.st [] [0] [(3840,false),(7649,false)] za0)),(ID.bench_Bench_Read,(.st [] [1,0] [(3840,false),(7649,false)] zbn)),(ID.row_Take,(.pure [1,0] zcQ))]) zkd [1,0] ID.stripe_Read
theorem zn0:za4 Try.prog ID.stripe_Read (.st [] [1,0] [(3840,false),(7649,false)] zaQ):=zbi (zaB [zdK,zhl,zj3,ztd]) zbB ⟨Try.f21,by kernel_rfl,by kernel_rfl,by kernel_rfl⟩
noncomputable def ziU:Fact Try.prog:=⟨ID.stripe_Read,(.st [] [1,0] [(3840,false),(7649,false)] zaQ),zn0⟩
noncomputable def ziE (zar:List D→Option D) (za0:List D→List Tb→Option Ans) (zbn:List D→List Tb→Option Ans) (zcQ:List D→Option D) (a0:Nat) (a1:List D) (a2_0:Int) (a2_1:Int) (a2_2:Int) (a3:Int) (T0:Tb) (T1:Tb):Option Ans:=
  zat (zar [D.agg [D.int IntKind.i64 a2_0,D.int IntKind.i64 a2_1,D.int IntKind.i64 a2_2]]) fun r1=>
  asI IntKind.i64 r1 fun i2=>
  brK (i2 != (0:Int))
    (some (Ans.mk (D.tup [D.sl Tag.own [],D.int IntKind.i64 (1:Int)]) [] []))
    (brK (decide (a3 < (0:Int)))
      (some (Ans.mk (D.tup [D.sl Tag.own [],D.int IntKind.i64 (1:Int)]) [] []))
      (brK (decide (a3≥(16:Int)))
        (some (Ans.mk (D.tup [D.sl Tag.own [],D.int IntKind.i64 (1:Int)]) [] []))
        (sif ((0:Int)≤a2_1) <|
        sif (a2_1=a2_1) <|
        sif (a2_1*(24:Int)≤(140737488355328:Int)) <|
        sif (a2_1≤(140737488355328:Int)) <|
        sif ((0:Nat)+Int.toNat a2_1≤List.length (List.replicate (Int.toNat a2_1) (D.sl Tag.nil []))) <|
        sif (Int.toNat a2_1=List.length (List.replicate (Int.toNat a2_1) (D.sl Tag.nil []))) <|
        zcc (α:=(Nat×List D×Int×(Int×Int×Int×PUnit)×List D×Int×Int×PUnit)×List (List D)×List (List D)×PUnit) (fun again3 ((x4,(l5,(i6,((i7,(i8,(i9,_))),(l10,(i11,(i12,_))))))),(U13,(U14,_)))=>
          brK (decide (i12 < i11))
            (zat (za0 [D.h (3840) x4 (0:Nat),D.sl Tag.lent l5,D.int IntKind.i64 i12] [U13,U14]) fun r15=>
            nilK r15.outs <|
            nilK r15.tbs <|
            asB r15.r fun b16=>
            brK (!b16)
              (letN (IntKind.wrap IntKind.i64 (i12+(1:Int))) fun n17=>
              sif (List.length l10=List.length l10) <|
              again3 (((x4,l5,i6,(i7,i8,i9,PUnit.unit),l10,i11,n17,PUnit.unit),U13,U14,PUnit.unit)))
              (letN (IntKind.wrap IntKind.i64 ((36:Int)+i6)) fun n18=>
              zat (zbn [D.h (3840) x4 (0:Nat),D.int IntKind.i64 i12,D.int IntKind.i64 n18] [U13,U14]) fun r19=>
              nilK r19.outs <|
              nilK r19.tbs <|
              zed r19.r fun ts20=>
              zay ([Lf.any,Lf.any]) ts20 fun c21=>
              za9 c21.fst fun l22=>
              asI IntKind.i64 c21.snd.fst fun i23=>
              brK (i23 != (0:Int))
                (some (Ans.mk (D.tup [D.sl Tag.own [],D.int IntKind.i64 i23]) [] []))
                (sif ((0:Int)≤i12) <|
                sif (Int.toNat i12 < List.length l10) <|
                sif ((0:Nat)+List.length l22≤List.length l22) <|
                getK l10 ((0:Nat)+Int.toNat i12) fun d24=>
                sif ((0:Nat)+List.length l22≤List.length l22) <|
                sif (D.isAgg d24=false) <|
                letN (IntKind.wrap IntKind.i64 (i12+(1:Int))) fun n25=>
                sif (List.length l10=List.length (List.set l10 ((0:Nat)+Int.toNat i12) (D.sl Tag.fresh (cut (0:Nat) (List.length l22) l22)))) <|
                again3 (((x4,l5,i6,(i7,i8,i9,PUnit.unit),List.set l10 ((0:Nat)+Int.toNat i12) (D.sl Tag.fresh (cut (0:Nat) (List.length l22) l22)),i11,n25,PUnit.unit),U13,U14,PUnit.unit)))))
            (sif ((0:Nat)+List.length l10≤List.length l10) <|
            zat (zcQ [D.agg [D.int IntKind.i64 i7,D.int IntKind.i64 i8,D.int IntKind.i64 i9],D.int IntKind.i64 i6,D.sl Tag.lent (cut (0:Nat) (List.length l10) l10)]) fun r26=>
            zed r26 fun ts27=>
            zay ([Lf.any,Lf.any]) ts27 fun c28=>
            za9 c28.fst fun l29=>
            asB c28.snd.fst fun b30=>
            brK (!b30)
              (some (Ans.mk (D.tup [D.sl Tag.own [],D.int IntKind.i64 (7:Int)]) [] []))
              (sif (List.length l29=List.length l29) <|
              sif (List.all l29 D.free=true) <|
              some (Ans.mk (D.tup [D.sl Tag.own l29,D.int IntKind.i64 (0:Int)]) [] []))))
          (((a0,a1,a3,(a2_0,a2_1,a2_2,PUnit.unit),List.replicate (Int.toNat a2_1) (D.sl Tag.nil []),(↑(Int.toNat a2_1):Int),(0:Int),PUnit.unit),T0,T1,PUnit.unit)))))
theorem ztf (zar:List D→Option D) (za0:List D→List Tb→Option Ans) (zbn:List D→List Tb→Option Ans) (zcQ:List D→Option D) (tga1:Tag) (a0:Nat) (a1:List D) (a2_0:Int) (a2_1:Int) (a2_2:Int) (a3:Int) (T0:Tb) (T1:Tb):denS Try.prog (zaz [(ID.geom_Check,(.pure [0] zar)),(ID.stripe_up,(.st [] [0] [(3840,false),(7649,false)] za0)),(ID.bench_Bench_Read,(.st [] [1,0] [(3840,false),(7649,false)] zbn)),(ID.row_Take,(.pure [1,0] zcQ))]) zkd [1,0] ID.stripe_Read [.h 3840 a0 0,.sl tga1 a1,.agg [.int .i64 a2_0,.int .i64 a2_1,.int .i64 a2_2],.int .i64 a3] [T0,T1]=ziE zar za0 zbn zcQ a0 (D.lentL a1) a2_0 a2_1 a2_2 a3 T0 T1:=by kernel_rfl
theorem zoV (tga1:Tag) (a0:Nat) (a1:List D) (a2_0:Int) (a2_1:Int) (a2_2:Int) (a3:Int) (T0:Tb) (T1:Tb):zaQ [.h 3840 a0 0,.sl tga1 a1,.agg [.int .i64 a2_0,.int .i64 a2_1,.int .i64 a2_2],.int .i64 a3] [T0,T1]=ziE zar za0 zbn zcQ a0 (D.lentL a1) a2_0 a2_1 a2_2 a3 T0 T1:=ztf zar za0 zbn zcQ tga1 a0 a1 a2_0 a2_1 a2_2 a3 T0 T1
def zf0:Ann:={ loops:=[] }
noncomputable def za3:List D→Option D:=denP Try.prog (zaz [(ID.wattleref01_Width,(.pure [0] zac)),(ID.wattleplay_Sectors,(.pure [1] zaj))]) zf0 [1] ID.wattlelaw14_Data
theorem zjd:za4 Try.prog ID.wattlelaw14_Data (.pure [1] za3):=zas (zaB [zcg,zde]) zbB ⟨Try.f24,by kernel_rfl,by kernel_rfl,by kernel_rfl⟩
noncomputable def zke:Fact Try.prog:=⟨ID.wattlelaw14_Data,(.pure [1] za3),zjd⟩
noncomputable def zeW (zac:List D→Option D) (zaj:List D→Option D) (a0_0:Int) (a0_1:Int) (a0_2:Int) (a1:Int) (a2:List D):Option D:=
  letN (min a1 (↑(List.length a2):Int)) fun n1=>
  sif ((0:Int)≤n1) <|
  sif (n1≤(↑(List.length a2):Int)) <|
  sif ((↑(List.length a2):Int)≤(↑(List.length a2):Int)) <|
  sif ((↑(List.length a2):Int)=(↑(List.length a2):Int)) <|
  sif (zvh (1:Nat) a2=true) <|
  zat (zac [D.agg [D.int IntKind.i64 a0_0,D.int IntKind.i64 a0_1,D.int IntKind.i64 a0_2]]) fun r2=>
  asI IntKind.i64 r2 fun i3=>
  zat (zaj [D.sl (zdP Tag.lent false (decide ((↑(List.length a2):Int)=(↑(List.length a2):Int)))) (cutI n1 (↑(List.length a2):Int) a2),D.int IntKind.i64 i3]) fun r4=>
  za9 r4 fun l5=>
  sif (List.length l5=List.length l5) <|
  sif (List.all l5 D.free=true) <|
  some (D.sl Tag.own l5)
theorem znd (zac:List D→Option D) (zaj:List D→Option D) (tga2:Tag) (a0_0:Int) (a0_1:Int) (a0_2:Int) (a1:Int) (a2:List D):denP Try.prog (zaz [(ID.wattleref01_Width,(.pure [0] zac)),(ID.wattleplay_Sectors,(.pure [1] zaj))]) zf0 [1] ID.wattlelaw14_Data [.agg [.int .i64 a0_0,.int .i64 a0_1,.int .i64 a0_2],.int .i64 a1,.sl tga2 a2]=zeW zac zaj a0_0 a0_1 a0_2 a1 (D.lentL a2):=by kernel_rfl
theorem zkf (tga2:Tag) (a0_0:Int) (a0_1:Int) (a0_2:Int) (a1:Int) (a2:List D):za3 [.agg [.int .i64 a0_0,.int .i64 a0_1,.int .i64 a0_2],.int .i64 a1,.sl tga2 a2]=zeW zac zaj a0_0 a0_1 a0_2 a1 (D.lentL a2):=znd zac zaj tga2 a0_0 a0_1 a0_2 a1 a2
def zeC:Ann:={ loops:=[(1,[.val (.cell .lent),.val (.cell .lent),.dead,.dead,.dead,.val (.cell (.int .i64))])] }
noncomputable def zav:List D→Option D:=denP Try.prog (zaz []) zeC [0] ID.wattlekeep_Same_byte
theorem zgW:za4 Try.prog ID.wattlekeep_Same_byte (.pure [0] zav):=zas (zaB []) zbB ⟨Try.f30,by kernel_rfl,by kernel_rfl,by kernel_rfl⟩
noncomputable def zeh:Fact Try.prog:=⟨ID.wattlekeep_Same_byte,(.pure [0] zav),zgW⟩
noncomputable def zdq (a0:List D) (a1:List D):Option D:=
  brK ((↑(List.length a0):Int) != (↑(List.length a1):Int))
    (some (D.bool false))
    (zcc (α:=(List D×List D×Int×PUnit)×PUnit) (fun again1 ((l2,(l3,(i4,_))),_)=>
      brK (decide (i4 < (↑(List.length l2):Int)))
        (sif ((0:Int)≤i4) <|
        getK l2 (Int.toNat i4) fun d5=>
        asI IntKind.u8 d5 fun i6=>
        sif ((0:Int)≤i4) <|
        getK l3 (Int.toNat i4) fun d7=>
        asI IntKind.u8 d7 fun i8=>
        brK (i6 != i8)
          (some (D.bool false))
          (letN (IntKind.wrap IntKind.i64 (i4+(1:Int))) fun n9=>
          again1 (((l2,l3,n9,PUnit.unit),PUnit.unit))))
        (some (D.bool true)))
      (((a0,a1,(0:Int),PUnit.unit),PUnit.unit)))
theorem zje (tga0:Tag) (tga1:Tag) (a0:List D) (a1:List D):denP Try.prog (zaz []) zeC [0] ID.wattlekeep_Same_byte [.sl tga0 a0,.sl tga1 a1]=zdq (D.lentL a0) (D.lentL a1):=by kernel_rfl
theorem zhq (tga0:Tag) (tga1:Tag) (a0:List D) (a1:List D):zav [.sl tga0 a0,.sl tga1 a1]=zdq (D.lentL a0) (D.lentL a1):=zje tga0 tga1 a0 a1
def zf1:Ann:={ loops:=[(1,[.val (.cell .lent),.val (.cell .lent),.dead,.dead,.dead,.dead,.dead,.dead,.dead,.dead,.dead,.dead,.val (.cell (.int .i64)),.val (.cell (.int .i64))])] }
noncomputable def zaO:List D→Option D:=denP Try.prog (zaz [(ID.wattlekeep_Same_byte,(.pure [0] zav))]) zf1 [0] ID.wattlelaw14_Same
theorem zjf:za4 Try.prog ID.wattlelaw14_Same (.pure [0] zaO):=zas (zaB [zeh]) zbB ⟨Try.f23,by kernel_rfl,by kernel_rfl,by kernel_rfl⟩
noncomputable def zkg:Fact Try.prog:=⟨ID.wattlelaw14_Same,(.pure [0] zaO),zjf⟩
noncomputable def zeX (zav:List D→Option D) (a0:List D) (a1:List D):Option D:=
  brK ((↑(List.length a0):Int) != (↑(List.length a1):Int))
    (some (D.bool false))
    (zcc (α:=(List D×List D×Int×Int×PUnit)×PUnit) (fun again1 ((l2,(l3,(i4,(i5,_)))),_)=>
      brK (decide (i5 < i4))
        (sif ((0:Int)≤i5) <|
        getK l2 (Int.toNat i5) fun d6=>
        asSl d6 fun t7 l8=>
        sif ((0:Int)≤i5) <|
        getK l3 (Int.toNat i5) fun d9=>
        asSl d9 fun t10 l11=>
        zat (zav [D.sl t7 l8,D.sl t10 l11]) fun r12=>
        asB r12 fun b13=>
        brK (!b13)
          (some (D.bool false))
          (letN (IntKind.wrap IntKind.i64 (i5+(1:Int))) fun n14=>
          again1 (((l2,l3,i4,n14,PUnit.unit),PUnit.unit))))
        (some (D.bool true)))
      (((a0,a1,(↑(List.length a0):Int),(0:Int),PUnit.unit),PUnit.unit)))
theorem zne (zav:List D→Option D) (tga0:Tag) (tga1:Tag) (a0:List D) (a1:List D):denP Try.prog (zaz [(ID.wattlekeep_Same_byte,(.pure [0] zav))]) zf1 [0] ID.wattlelaw14_Same [.sl tga0 a0,.sl tga1 a1]=zeX zav (D.lentL a0) (D.lentL a1):=by kernel_rfl
theorem zkh (tga0:Tag) (tga1:Tag) (a0:List D) (a1:List D):zaO [.sl tga0 a0,.sl tga1 a1]=zeX zav (D.lentL a0) (D.lentL a1):=zne zav tga0 tga1 a0 a1
def zfG:Ann:={ loops:=[],ks:=[(3840,true),(7649,true)] }
noncomputable def za6:List D→Option D:=denT Try.prog (zaz [(ID.bench_New,(.st [] [0,0] [(3840,true),(7649,true)] zbp)),(ID.stripe_Read,(.st [] [1,0] [(3840,false),(7649,false)] zaQ)),(ID.wattlekeep_Same_byte,(.pure [0] zav))]) zfG [0] ID.wattlelaw14_wakes
theorem ziF:za4 Try.prog ID.wattlelaw14_wakes (.pure [0] za6):=zrH (zaB [zlp,ziU,zeh]) zbB ⟨Try.f28,by kernel_rfl,by kernel_rfl,by kernel_rfl⟩
noncomputable def zjg:Fact Try.prog:=⟨ID.wattlelaw14_wakes,(.pure [0] za6),ziF⟩
noncomputable def zeu (zbp:List D→List Tb→Option Ans) (zaQ:List D→List Tb→Option Ans) (zav:List D→Option D):Option D:=
  zat (zbp [D.int IntKind.i64 (3:Int)] [[],[]]) fun r1=>
  nilK r1.outs <|
  zee r1.tbs fun c2 q3=>
  zee q3 fun c4 q5=>
  nilK q5 <|
  zed r1.r fun ts6=>
  zay ([Lf.any,Lf.any]) ts6 fun c7=>
  sif (ziN c7.fst=true) <|
  asI IntKind.i64 c7.snd.fst fun i8=>
  brK (i8 != (0:Int))
    (some (D.bool false))
    (znr c7.fst fun b9=>
    brK b9
      (some (D.bool false))
      (zat (zaQ [c7.fst,D.sl Tag.full [D.bool true,D.bool true,D.bool true],D.agg [D.int IntKind.i64 (5:Int),D.int IntKind.i64 (3:Int),D.int IntKind.i64 (1:Int)],D.int IntKind.i64 (4:Int)] [c2,c4]) fun r10=>
      nilK r10.outs <|
      nilK r10.tbs <|
      zed r10.r fun ts11=>
      zay ([Lf.any,Lf.any]) ts11 fun c12=>
      za9 c12.fst fun l13=>
      asI IntKind.i64 c12.snd.fst fun i14=>
      brK (i14 == (0:Int))
        (sif ((0:Nat)+List.length l13≤List.length l13) <|
        brK ((↑(List.length l13):Int) == (2:Int))
          (sif ((0:Nat) < List.length l13) <|
          getK l13 ((0:Nat)) fun d15=>
          asSl d15 fun t16 l17=>
          zat (zav [D.sl t16 l17,D.sl Tag.lent [D.int IntKind.u8 (0:Int),D.int IntKind.u8 (0:Int),D.int IntKind.u8 (0:Int),D.int IntKind.u8 (0:Int),D.int IntKind.u8 (0:Int),D.int IntKind.u8 (0:Int),D.int IntKind.u8 (0:Int),D.int IntKind.u8 (0:Int),D.int IntKind.u8 (0:Int),D.int IntKind.u8 (0:Int),D.int IntKind.u8 (0:Int),D.int IntKind.u8 (0:Int),D.int IntKind.u8 (0:Int),D.int IntKind.u8 (0:Int),D.int IntKind.u8 (0:Int),D.int IntKind.u8 (0:Int),D.int IntKind.u8 (0:Int),D.int IntKind.u8 (0:Int),D.int IntKind.u8 (0:Int),D.int IntKind.u8 (0:Int),D.int IntKind.u8 (0:Int),D.int IntKind.u8 (0:Int),D.int IntKind.u8 (0:Int),D.int IntKind.u8 (0:Int),D.int IntKind.u8 (0:Int),D.int IntKind.u8 (0:Int),D.int IntKind.u8 (0:Int),D.int IntKind.u8 (0:Int),D.int IntKind.u8 (0:Int),D.int IntKind.u8 (0:Int),D.int IntKind.u8 (0:Int),D.int IntKind.u8 (0:Int)]]) fun r18=>
          asB r18 fun b19=>
          some (D.bool b19))
          (some (D.bool false)))
        (some (D.bool false))))
theorem zmb (zbp:List D→List Tb→Option Ans) (zaQ:List D→List Tb→Option Ans) (zav:List D→Option D):denT Try.prog (zaz [(ID.bench_New,(.st [] [0,0] [(3840,true),(7649,true)] zbp)),(ID.stripe_Read,(.st [] [1,0] [(3840,false),(7649,false)] zaQ)),(ID.wattlekeep_Same_byte,(.pure [0] zav))]) zfG [0] ID.wattlelaw14_wakes []=sif (D.nohL []=true) (zeu zbp zaQ zav ):=by kernel_rfl
theorem zjh:za6 []=sif (D.nohL []=true) (zeu zbp zaQ zav ):=zmb zbp zaQ zav
def zki:Ann:={ loops:=[] }
noncomputable def zb2:List D→Option D:=denP Try.prog (zaz [(ID.slices_ContainsFunc_byte_byte,(.pure [0] zae)),(ID.row_sectors_1,(.pure [0] zao))]) zki [0] ID.row_sectors
theorem zn1:za4 Try.prog ID.row_sectors (.pure [0] zb2):=zas (zaB [zcM,zeV]) zbB ⟨Try.f108,by kernel_rfl,by kernel_rfl,by kernel_rfl⟩
noncomputable def zoW:Fact Try.prog:=⟨ID.row_sectors,(.pure [0] zb2),zn1⟩
noncomputable def ziG (zae:List D→Option D) (zao:List D→Option D) (a0:List D):Option D:=
  zat (zae [D.sl Tag.lent a0,D.fn (135:Nat) [] []]) fun r1=>
  asB r1 fun b2=>
  some (D.bool !b2)
theorem ztg (zae:List D→Option D) (zao:List D→Option D) (tga0:Tag) (a0:List D):denP Try.prog (zaz [(ID.slices_ContainsFunc_byte_byte,(.pure [0] zae)),(ID.row_sectors_1,(.pure [0] zao))]) zki [0] ID.row_sectors [.sl tga0 a0]=ziG zae zao (D.lentL a0):=by kernel_rfl
theorem zoX (tga0:Tag) (a0:List D):zb2 [.sl tga0 a0]=ziG zae zao (D.lentL a0):=ztg zae zao tga0 a0
def zoE:Ann:={ loops:=[(1,[.dead,.val (.cell (.int .i64)),.val (.cell .lent),.box true [(.int .i64),(.int .i64),(.int .i64)],.dead,.dead,.dead,.dead,.own 1,.dead,.dead,.dead,.dead,.dead,.dead,.dead,.dead,.dead,.dead,.dead,.dead,.dead,.dead,.dead,.dead,.dead,.dead,.dead,.dead,.dead,.dead,.dead,.val (.cell .lent),.val (.cell (.int .i64)),.val (.cell (.int .i64))])] }
noncomputable def zcR:List D→Option D:=denP Try.prog (zaz [(ID.row_in,(.pure [0] zcr)),(ID.geom_Width,(.pure [0] zaM)),(ID.row_sectors,(.pure [0] zb2)),(ID.place_Disk,(.pure [0] zbg)),(ID.slices_Clone_byte_byte,(.pure [1] zak)),(ID.place_Parity,(.pure [0,0] zaG)),(ID.synd_P,(.pure [1] zbQ)),(ID.synd_Q,(.pure [1] zbR))]) zoE [1,0] ID.row_Fill
theorem zq1:za4 Try.prog ID.row_Fill (.pure [1,0] zcR):=zas (zaB [zqh,zgJ,zoW,zj7,zdL,zfm,zl7,zl8]) zbB ⟨Try.f77,by kernel_rfl,by kernel_rfl,by kernel_rfl⟩
noncomputable def zth:Fact Try.prog:=⟨ID.row_Fill,(.pure [1,0] zcR),zq1⟩
noncomputable def zn2 (zcr:List D→Option D) (zaM:List D→Option D) (zb2:List D→Option D) (zbg:List D→Option D) (zak:List D→Option D) (zaG:List D→Option D) (zbQ:List D→Option D) (zbR:List D→Option D) (a0_0:Int) (a0_1:Int) (a0_2:Int) (a1:Int) (a2:List D):Option D:=
  zat (zcr [D.agg [D.int IntKind.i64 a0_0,D.int IntKind.i64 a0_1,D.int IntKind.i64 a0_2],D.int IntKind.i64 a1]) fun r1=>
  asB r1 fun b2=>
  brK (!b2)
    (some (D.tup [D.sl Tag.own [],D.bool false]))
    (zat (zaM [D.agg [D.int IntKind.i64 a0_0,D.int IntKind.i64 a0_1,D.int IntKind.i64 a0_2]]) fun r3=>
    asI IntKind.i64 r3 fun i4=>
    brK ((↑(List.length a2):Int) != i4)
      (some (D.tup [D.sl Tag.own [],D.bool false]))
      (zat (zb2 [D.sl Tag.lent a2]) fun r5=>
      asB r5 fun b6=>
      brK (!b6)
        (some (D.tup [D.sl Tag.own [],D.bool false]))
        (sif ((0:Int)≤a0_1) <|
        sif (a0_1=a0_1) <|
        sif (a0_1*(24:Int)≤(140737488355328:Int)) <|
        sif (a0_1≤(140737488355328:Int)) <|
        sif (Int.toNat a0_1=List.length (List.replicate (Int.toNat a0_1) (D.sl Tag.nil []))) <|
        zcc (α:=(Int×List D×(Int×Int×Int×PUnit)×List D×List D×Int×Int×PUnit)×PUnit) (fun again7 ((i8,(l9,((i10,(i11,(i12,_))),(l13,(l14,(i15,(i16,_))))))),_)=>
          brK (decide (i16 < i15))
            (sif ((0:Int)≤i16) <|
            getK l14 (Int.toNat i16) fun d17=>
            asSl d17 fun t18 l19=>
            zat (zbg [D.agg [D.int IntKind.i64 i10,D.int IntKind.i64 i11,D.int IntKind.i64 i12],D.int IntKind.i64 i8,D.int IntKind.i64 i16]) fun r20=>
            asI IntKind.i64 r20 fun i21=>
            zat (zak [D.sl t18 l19]) fun r22=>
            za9 r22 fun l23=>
            sif ((0:Int)≤i21) <|
            sif (Int.toNat i21 < List.length l13) <|
            sif ((0:Nat)+List.length l23≤List.length l23) <|
            getK l13 ((0:Nat)+Int.toNat i21) fun d24=>
            sif ((0:Nat)+List.length l23≤List.length l23) <|
            sif (D.isAgg d24=false) <|
            letN (IntKind.wrap IntKind.i64 (i16+(1:Int))) fun n25=>
            sif (List.length l13=List.length (List.set l13 ((0:Nat)+Int.toNat i21) (D.sl Tag.fresh (cut (0:Nat) (List.length l23) l23)))) <|
            again7 (((i8,l9,(i10,i11,i12,PUnit.unit),List.set l13 ((0:Nat)+Int.toNat i21) (D.sl Tag.fresh (cut (0:Nat) (List.length l23) l23)),l14,i15,n25,PUnit.unit),PUnit.unit)))
            (zat (zaG [D.agg [D.int IntKind.i64 i10,D.int IntKind.i64 i11,D.int IntKind.i64 i12],D.int IntKind.i64 i8]) fun r26=>
            zed r26 fun ts27=>
            zay ([Lf.any,Lf.any]) ts27 fun c28=>
            asI IntKind.i64 c28.fst fun i29=>
            asI IntKind.i64 c28.snd.fst fun i30=>
            zat (zbQ [D.sl Tag.lent l9]) fun r31=>
            za9 r31 fun l32=>
            sif ((0:Int)≤i29) <|
            sif (Int.toNat i29 < List.length l13) <|
            sif ((0:Nat)+List.length l32≤List.length l32) <|
            getK l13 ((0:Nat)+Int.toNat i29) fun d33=>
            sif ((0:Nat)+List.length l32≤List.length l32) <|
            sif (D.isAgg d33=false) <|
            brK (decide (i30≥(0:Int)))
              (zat (zbR [D.sl Tag.lent l9]) fun r34=>
              za9 r34 fun l35=>
              sif ((0:Int)≤i30) <|
              sif (Int.toNat i30 < List.length l13) <|
              sif ((0:Nat)+List.length l35≤List.length l35) <|
              getK (List.set l13 ((0:Nat)+Int.toNat i29) (D.sl Tag.fresh (cut (0:Nat) (List.length l32) l32))) ((0:Nat)+Int.toNat i30) fun d36=>
              sif ((0:Nat)+List.length l35≤List.length l35) <|
              sif (D.isAgg d36=false) <|
              sif (List.length l13=List.length (List.set (List.set l13 ((0:Nat)+Int.toNat i29) (D.sl Tag.fresh (cut (0:Nat) (List.length l32) l32))) ((0:Nat)+Int.toNat i30) (D.sl Tag.fresh (cut (0:Nat) (List.length l35) l35)))) <|
              sif (List.all (List.set (List.set l13 ((0:Nat)+Int.toNat i29) (D.sl Tag.fresh (cut (0:Nat) (List.length l32) l32))) ((0:Nat)+Int.toNat i30) (D.sl Tag.fresh (cut (0:Nat) (List.length l35) l35))) D.free=true) <|
              some (D.tup [D.sl Tag.own (List.set (List.set l13 ((0:Nat)+Int.toNat i29) (D.sl Tag.fresh (cut (0:Nat) (List.length l32) l32))) ((0:Nat)+Int.toNat i30) (D.sl Tag.fresh (cut (0:Nat) (List.length l35) l35))),D.bool true]))
              (sif (List.length l13=List.length (List.set l13 ((0:Nat)+Int.toNat i29) (D.sl Tag.fresh (cut (0:Nat) (List.length l32) l32)))) <|
              sif (List.all (List.set l13 ((0:Nat)+Int.toNat i29) (D.sl Tag.fresh (cut (0:Nat) (List.length l32) l32))) D.free=true) <|
              some (D.tup [D.sl Tag.own (List.set l13 ((0:Nat)+Int.toNat i29) (D.sl Tag.fresh (cut (0:Nat) (List.length l32) l32))),D.bool true]))))
          (((a1,a2,(a0_0,a0_1,a0_2,PUnit.unit),List.replicate (Int.toNat a0_1) (D.sl Tag.nil []),a2,(↑(List.length a2):Int),(0:Int),PUnit.unit),PUnit.unit)))))
theorem zxR (zcr:List D→Option D) (zaM:List D→Option D) (zb2:List D→Option D) (zbg:List D→Option D) (zak:List D→Option D) (zaG:List D→Option D) (zbQ:List D→Option D) (zbR:List D→Option D) (tga2:Tag) (a0_0:Int) (a0_1:Int) (a0_2:Int) (a1:Int) (a2:List D):denP Try.prog (zaz [(ID.row_in,(.pure [0] zcr)),(ID.geom_Width,(.pure [0] zaM)),(ID.row_sectors,(.pure [0] zb2)),(ID.place_Disk,(.pure [0] zbg)),(ID.slices_Clone_byte_byte,(.pure [1] zak)),(ID.place_Parity,(.pure [0,0] zaG)),(ID.synd_P,(.pure [1] zbQ)),(ID.synd_Q,(.pure [1] zbR))]) zoE [1,0] ID.row_Fill [.agg [.int .i64 a0_0,.int .i64 a0_1,.int .i64 a0_2],.int .i64 a1,.sl tga2 a2]=zn2 zcr zaM zb2 zbg zak zaG zbQ zbR a0_0 a0_1 a0_2 a1 (D.lentL a2):=by kernel_rfl
theorem zti (tga2:Tag) (a0_0:Int) (a0_1:Int) (a0_2:Int) (a1:Int) (a2:List D):zcR [.agg [.int .i64 a0_0,.int .i64 a0_1,.int .i64 a0_2],.int .i64 a1,.sl tga2 a2]=zn2 zcr zaM zb2 zbg zak zaG zbQ zbR a0_0 a0_1 a0_2 a1 (D.lentL a2):=zxR zcr zaM zb2 zbg zak zaG zbQ zbR tga2 a0_0 a0_1 a0_2 a1 a2
def zgO:Ann:={ loops:=[],pubs:=[(2,[(3,119,7649)])],ks:=[(7649,true)] }
noncomputable def zbx:List D→List Tb→Option Ans:=denS Try.prog (zaz [(ID.slices_Clone_disk_write_disk_write,(.pure [33] zad))]) zgO [0] ID.disk_Disk_Clone
theorem zkj:za4 Try.prog ID.disk_Disk_Clone (.st [] [0] [(7649,true)] zbx):=zbi (zaB [zcm]) zbB ⟨Try.f93,by kernel_rfl,by kernel_rfl,by kernel_rfl⟩
noncomputable def zld:Fact Try.prog:=⟨ID.disk_Disk_Clone,(.st [] [0] [(7649,true)] zbx),zkj⟩
noncomputable def zfo (zad:List D→Option D) (a0:Nat) (T0:Tb):Option Ans:=
  getK T0 a0 fun d1=>
  sif ((1666:Nat)≤List.length d1) <|
  sif (List.length (List.map D.hide (List.take (1666:Nat) (List.drop (0:Nat) d1)))=(1666:Nat)) <|
  getK T0 a0 fun d2=>
  getK d2 ((1664:Nat)) fun d3=>
  za9 d3 fun l4=>
  getK T0 a0 fun d5=>
  getK d5 ((1664:Nat)) fun d6=>
  za9 d6 fun l7=>
  sif ((0:Nat)+List.length l4≤List.length l7) <|
  zat (zad [D.sl Tag.lent (cut (0:Nat) (List.length l4) l7)]) fun r8=>
  za9 r8 fun l9=>
  sif ((0:Nat)+List.length l9≤List.length l9) <|
  sif ((1664:Nat) < List.length (spl (0:Nat) (1666:Nat) (List.reverse ([D.bool false,D.sl Tag.nil []]++List.replicate 1664 (D.int IntKind.u8 (0:Int)))) (List.map D.hide (List.take (1666:Nat) (List.drop (0:Nat) d1))))) <|
  sif (some (1666:Nat)=some (List.length (spl (0:Nat) (1666:Nat) (List.reverse ([D.bool false,D.sl Tag.nil []]++List.replicate 1664 (D.int IntKind.u8 (0:Int)))) (List.map D.hide (List.take (1666:Nat) (List.drop (0:Nat) d1)))))) <|
  sif (List.length l9=List.length l9) <|
  sif (zc2 l9=true) <|
  sif (zfz (33:Nat) l9=true) <|
  sif (List.all (List.set (spl (0:Nat) (1666:Nat) (List.reverse ([D.bool false,D.sl Tag.nil []]++List.replicate 1664 (D.int IntKind.u8 (0:Int)))) (List.map D.hide (List.take (1666:Nat) (List.drop (0:Nat) d1)))) (1664:Nat) D.nilp) D.own0ok=true) <|
  sif ((true && decide ((1:Nat)=(1:Nat)) && List.all [(1664:Nat)] fun k=>decide (k < List.length (spl (0:Nat) (1666:Nat) (List.reverse ([D.bool false,D.sl Tag.nil []]++List.replicate 1664 (D.int IntKind.u8 (0:Int)))) (List.map D.hide (List.take (1666:Nat) (List.drop (0:Nat) d1))))))=true) <|
  letT (T0++[List.set (List.map D.own0 (spl (0:Nat) (1666:Nat) (List.reverse ([D.bool false,D.sl Tag.nil []]++List.replicate 1664 (D.int IntKind.u8 (0:Int)))) (List.map D.hide (List.take (1666:Nat) (List.drop (0:Nat) d1))))) (1664:Nat) (D.sl Tag.own l9)]) fun U10=>
  some (Ans.mk (D.h (7649:Nat) (List.length T0) (0:Nat)) [] [U10])
theorem zn3 (zad:List D→Option D) (a0:Nat) (T0:Tb):denS Try.prog (zaz [(ID.slices_Clone_disk_write_disk_write,(.pure [33] zad))]) zgO [0] ID.disk_Disk_Clone [.h 7649 a0 0] [T0]=zfo zad a0 T0:=by kernel_rfl
theorem zle (a0:Nat) (T0:Tb):zbx [.h 7649 a0 0] [T0]=zfo zad a0 T0:=zn3 zad a0 T0
def zgP:Ann:={ loops:=[],ks:=[(7649,true)] }
noncomputable def zbj:List D→List Tb→Option Ans:=denS Try.prog (zaz [(ID.disk_Disk_put,(.st [] [0,0] [(7649,false)] zaT))]) zgP [0] ID.disk_Disk_Write
theorem zkk:za4 Try.prog ID.disk_Disk_Write (.st [] [0] [(7649,true)] zbj):=zbi (zaB [zha]) zbB ⟨Try.f112,by kernel_rfl,by kernel_rfl,by kernel_rfl⟩
noncomputable def zlf:Fact Try.prog:=⟨ID.disk_Disk_Write,(.st [] [0] [(7649,true)] zbj),zkk⟩
noncomputable def zfp (zaT:List D→List Tb→Option Ans) (a0:Nat) (a1:Int) (a2:List D) (T0:Tb):Option Ans:=
  zat (zaT [D.h (7649:Nat) a0 (0:Nat),D.int IntKind.i64 a1,D.sl Tag.lent a2] [T0]) fun r1=>
  nilK r1.outs <|
  nilK r1.tbs <|
  zed r1.r fun ts2=>
  zay ([Lf.any,Lf.any]) ts2 fun c3=>
  asAgg c3.fst fun cs4=>
  zay ([Lf.int IntKind.i64,Lf.arr (32)]) cs4 fun c5=>
  asI IntKind.i64 c3.snd.fst fun i6=>
  sif (List.length ([D.int IntKind.i64 c5.fst]++(c5.snd.fst++[]))=(33:Nat)) <|
  brK (i6 == (0:Int))
    (getK T0 a0 fun d7=>
    getK d7 ((1664:Nat)) fun d8=>
    za9 d8 fun l9=>
    sif ((33:Nat)≤List.length ([D.int IntKind.i64 c5.fst]++(c5.snd.fst++[]))) <|
    zay ([Lf.int IntKind.i64,Lf.arr (32)]) (List.take (33:Nat) (List.drop (0:Nat) ([D.int IntKind.i64 c5.fst]++(c5.snd.fst++[])))) fun c10=>
    sif (zdZ (33:Nat) [D.agg ([D.int IntKind.i64 c10.fst]++(c10.snd.fst++[]))]=true) <|
    getK T0 a0 fun d11=>
    getK d11 ((1664:Nat)) fun d12=>
    za9 d12 fun l13=>
    sif (List.length l9+(1:Nat)≤(4294967296:Nat)) <|
    sif (zdZ (33:Nat) [D.agg ([D.int IntKind.i64 c10.fst]++(c10.snd.fst++[]))]=true) <|
    sif (List.length l9=List.length l13) <|
    letT (setT T0 a0 (1664:Nat) D.undef) fun U14=>
    getK U14 a0 fun d15=>
    sif ((1665:Nat)≤List.length d15) <|
    sif (List.length l9+(1:Nat)=List.length (l13++[D.agg ([D.int IntKind.i64 c10.fst]++(c10.snd.fst++[]))])) <|
    sif (zc2 (l13++[D.agg ([D.int IntKind.i64 c10.fst]++(c10.snd.fst++[]))])=true) <|
    sif (zfz (33:Nat) (l13++[D.agg ([D.int IntKind.i64 c10.fst]++(c10.snd.fst++[]))])=true) <|
    letT (zaU U14 a0 (1664:Nat) [D.sl Tag.own (l13++[D.agg ([D.int IntKind.i64 c10.fst]++(c10.snd.fst++[]))])]) fun U16=>
    some (Ans.mk (D.int IntKind.i64 i6) [] [U16]))
    (some (Ans.mk (D.int IntKind.i64 i6) [] [T0]))
theorem zn4 (zaT:List D→List Tb→Option Ans) (tga2:Tag) (a0:Nat) (a1:Int) (a2:List D) (T0:Tb):denS Try.prog (zaz [(ID.disk_Disk_put,(.st [] [0,0] [(7649,false)] zaT))]) zgP [0] ID.disk_Disk_Write [.h 7649 a0 0,.int .i64 a1,.sl tga2 a2] [T0]=zfp zaT a0 a1 (D.lentL a2) T0:=by kernel_rfl
theorem zlg (tga2:Tag) (a0:Nat) (a1:Int) (a2:List D) (T0:Tb):zbj [.h 7649 a0 0,.int .i64 a1,.sl tga2 a2] [T0]=zfp zaT a0 a1 (D.lentL a2) T0:=zn4 zaT tga2 a0 a1 a2 T0
def zeY:Ann:={ loops:=[],ks:=[(3840,true)] }
noncomputable def zaZ:List D→List Tb→Option Ans:=denS Try.prog (zaz []) zeY [0] ID.bench_counter_count
theorem zhr:za4 Try.prog ID.bench_counter_count (.st [] [0] [(3840,true)] zaZ):=zbi (zaB []) zbB ⟨Try.f113,by kernel_rfl,by kernel_rfl,by kernel_rfl⟩
noncomputable def zh1:Fact Try.prog:=⟨ID.bench_counter_count,(.st [] [0] [(3840,true)] zaZ),zhr⟩
noncomputable def zdM (a0:Nat) (T0:Tb):Option Ans:=
  getK T0 a0 fun d1=>
  getK d1 ((1:Nat)) fun d2=>
  asI IntKind.i64 d2 fun i3=>
  brK (i3 == (0:Int))
    (getK T0 a0 fun d4=>
    sif ((3:Nat)≤List.length d4) <|
    sif (zhg (List.take (1:Nat) (List.drop (2:Nat) d4))=true) <|
    letT (zaU T0 a0 (2:Nat) [D.bool true]) fun U5=>
    some (Ans.mk (D.bool false) [] [U5]))
    (getK T0 a0 fun d6=>
    getK d6 ((1:Nat)) fun d7=>
    asI IntKind.i64 d7 fun i8=>
    brK (decide (i8 > (0:Int)))
      (getK T0 a0 fun d9=>
      getK d9 ((1:Nat)) fun d10=>
      asI IntKind.i64 d10 fun i11=>
      letN (IntKind.wrap IntKind.i64 (i11 - (1:Int))) fun n12=>
      getK T0 a0 fun d13=>
      sif ((2:Nat)≤List.length d13) <|
      sif (zhg (List.take (1:Nat) (List.drop (1:Nat) d13))=true) <|
      letT (zaU T0 a0 (1:Nat) [D.int IntKind.i64 n12]) fun U14=>
      getK U14 a0 fun d15=>
      getK d15 ((0:Nat)) fun d16=>
      asI IntKind.i64 d16 fun i17=>
      letN (IntKind.wrap IntKind.i64 (i17+(1:Int))) fun n18=>
      getK U14 a0 fun d19=>
      sif ((1:Nat)≤List.length d19) <|
      sif (zhg (List.take (1:Nat) (List.drop (0:Nat) d19))=true) <|
      letT (zaU U14 a0 (0:Nat) [D.int IntKind.i64 n18]) fun U20=>
      some (Ans.mk (D.bool true) [] [U20]))
      (getK T0 a0 fun d21=>
      getK d21 ((0:Nat)) fun d22=>
      asI IntKind.i64 d22 fun i23=>
      letN (IntKind.wrap IntKind.i64 (i23+(1:Int))) fun n24=>
      getK T0 a0 fun d25=>
      sif ((1:Nat)≤List.length d25) <|
      sif (zhg (List.take (1:Nat) (List.drop (0:Nat) d25))=true) <|
      letT (zaU T0 a0 (0:Nat) [D.int IntKind.i64 n24]) fun U26=>
      some (Ans.mk (D.bool true) [] [U26])))
theorem zkl (a0:Nat) (T0:Tb):denS Try.prog (zaz []) zeY [0] ID.bench_counter_count [.h 3840 a0 0] [T0]=zdM a0 T0:=by kernel_rfl
theorem zh2 (a0:Nat) (T0:Tb):zaZ [.h 3840 a0 0] [T0]=zdM a0 T0:=zkl a0 T0
def zfH:Ann:={ loops:=[],ks:=[(3840,true),(7649,true)] }
noncomputable def zbd:List D→List Tb→Option Ans:=denS Try.prog (zaz [(ID.bench_Bench_may,(.st [] [0] [(3840,false)] zau)),(ID.disk_Disk_Clone,(.st [] [0] [(7649,true)] zbx)),(ID.disk_Disk_Write,(.st [] [0] [(7649,true)] zbj)),(ID.bench_counter_count,(.st [] [0] [(3840,true)] zaZ))]) zfH [0] ID.bench_Bench_Write
theorem ziH:za4 Try.prog ID.bench_Bench_Write (.st [] [0] [(3840,true),(7649,true)] zbd):=zbi (zaB [zd8,zld,zlf,zh1]) zbB ⟨Try.f78,by kernel_rfl,by kernel_rfl,by kernel_rfl⟩
noncomputable def zji:Fact Try.prog:=⟨ID.bench_Bench_Write,(.st [] [0] [(3840,true),(7649,true)] zbd),ziH⟩
noncomputable def zev (zau:List D→List Tb→Option Ans) (zbx:List D→List Tb→Option Ans) (zbj:List D→List Tb→Option Ans) (zaZ:List D→List Tb→Option Ans) (a0:Nat) (a1:Int) (a2:Int) (a3:List D) (T0:Tb) (T1:Tb):Option Ans:=
  zat (zau [D.h (3840:Nat) a0 (0:Nat),D.int IntKind.i64 a1] [T0]) fun r1=>
  nilK r1.outs <|
  nilK r1.tbs <|
  asI IntKind.i64 r1.r fun i2=>
  brK (i2 != (0:Int))
    (some (Ans.mk (D.int IntKind.i64 i2) [] [T0,T1]))
    (getK T0 a0 fun d3=>
    getK d3 ((3:Nat)) fun d4=>
    za9 d4 fun l5=>
    getK T0 a0 fun d6=>
    getK d6 ((3:Nat)) fun d7=>
    za9 d7 fun l8=>
    sif ((0:Int)≤a1) <|
    sif (Int.toNat a1 < List.length l5) <|
    getK T0 a0 fun d9=>
    getK d9 ((3:Nat)) fun d10=>
    za9 d10 fun l11=>
    getK l11 ((0:Nat)+Int.toNat a1) fun d12=>
    sif (D.isAgg d12=false) <|
    sif (D.width d12=(1:Nat)) <|
    sif (D.cell d12=true) <|
    zat (zbx [d12] [T1]) fun r13=>
    nilK r13.outs <|
    zee r13.tbs fun c14 q15=>
    nilK q15 <|
    sif (ziN r13.r=true) <|
    zat (zbj [r13.r,D.int IntKind.i64 a2,D.sl Tag.lent a3] [c14]) fun r16=>
    nilK r16.outs <|
    zee r16.tbs fun c17 q18=>
    nilK q18 <|
    asI IntKind.i64 r16.r fun i19=>
    brK (i19 != (0:Int))
      (some (Ans.mk (D.int IntKind.i64 i19) [] [T0,c17]))
      (zat (zaZ [D.h (3840:Nat) a0 (0:Nat)] [T0]) fun r20=>
      nilK r20.outs <|
      zee r20.tbs fun c21 q22=>
      nilK q22 <|
      asB r20.r fun b23=>
      brK (!b23)
        (some (Ans.mk (D.int IntKind.i64 (6:Int)) [] [c21,c17]))
        (getK c21 a0 fun d24=>
        getK d24 ((3:Nat)) fun d25=>
        za9 d25 fun l26=>
        getK c21 a0 fun d27=>
        getK d27 ((3:Nat)) fun d28=>
        za9 d28 fun l29=>
        sif ((0:Int)≤a1) <|
        sif (Int.toNat a1 < List.length l26) <|
        getK c21 a0 fun d30=>
        getK d30 ((3:Nat)) fun d31=>
        za9 d31 fun l32=>
        getK l32 ((0:Nat)+Int.toNat a1) fun d33=>
        sif (D.isAgg d33=false) <|
        sif (D.width d33=(1:Nat)) <|
        sif (D.cell d33=true) <|
        zat (zbj [d33,D.int IntKind.i64 a2,D.sl Tag.lent a3] [c17]) fun r34=>
        nilK r34.outs <|
        zee r34.tbs fun c35 q36=>
        nilK q36 <|
        asI IntKind.i64 r34.r fun i37=>
        some (Ans.mk (D.int IntKind.i64 i37) [] [c21,c35]))))
theorem zmc (zau:List D→List Tb→Option Ans) (zbx:List D→List Tb→Option Ans) (zbj:List D→List Tb→Option Ans) (zaZ:List D→List Tb→Option Ans) (tga3:Tag) (a0:Nat) (a1:Int) (a2:Int) (a3:List D) (T0:Tb) (T1:Tb):denS Try.prog (zaz [(ID.bench_Bench_may,(.st [] [0] [(3840,false)] zau)),(ID.disk_Disk_Clone,(.st [] [0] [(7649,true)] zbx)),(ID.disk_Disk_Write,(.st [] [0] [(7649,true)] zbj)),(ID.bench_counter_count,(.st [] [0] [(3840,true)] zaZ))]) zfH [0] ID.bench_Bench_Write [.h 3840 a0 0,.int .i64 a1,.int .i64 a2,.sl tga3 a3] [T0,T1]=zev zau zbx zbj zaZ a0 a1 a2 (D.lentL a3) T0 T1:=by kernel_rfl
theorem zjj (tga3:Tag) (a0:Nat) (a1:Int) (a2:Int) (a3:List D) (T0:Tb) (T1:Tb):zbd [.h 3840 a0 0,.int .i64 a1,.int .i64 a2,.sl tga3 a3] [T0,T1]=zev zau zbx zbj zaZ a0 a1 a2 (D.lentL a3) T0 T1:=zmc zau zbx zbj zaZ tga3 a0 a1 a2 a3 T0 T1
def ziV:Ann:={ loops:=[(1,[.val (.cell (.hnd (3840:Nat))),.val (.cell .lent),.dead,.val (.cell (.int .i64)),.dead,.dead,.dead,.dead,.dead,.dead,.dead,.dead,.dead,.dead,.dead,.dead,.dead,.dead,.dead,.dead,.dead,.dead,.dead,.dead,.dead,.own 1,.val (.cell (.int .i64)),.val (.cell (.int .i64))])],ks:=[(3840,true),(7649,true)] }
noncomputable def zbL:List D→List Tb→Option Ans:=denS Try.prog (zaz [(ID.row_Fill,(.pure [1,0] zcR)),(ID.stripe_up,(.st [] [0] [(3840,false),(7649,false)] za0)),(ID.bench_Bench_Write,(.st [] [0] [(3840,true),(7649,true)] zbd))]) ziV [0] ID.stripe_Write
theorem znf:za4 Try.prog ID.stripe_Write (.st [] [0] [(3840,true),(7649,true)] zbL):=zbi (zaB [zth,zhl,zji]) zbB ⟨Try.f33,by kernel_rfl,by kernel_rfl,by kernel_rfl⟩
noncomputable def zn5:Fact Try.prog:=⟨ID.stripe_Write,(.st [] [0] [(3840,true),(7649,true)] zbL),znf⟩
noncomputable def zhs (zcR:List D→Option D) (za0:List D→List Tb→Option Ans) (zbd:List D→List Tb→Option Ans) (a0:Nat) (a1:List D) (a2_0:Int) (a2_1:Int) (a2_2:Int) (a3:Int) (a4:List D) (T0:Tb) (T1:Tb):Option Ans:=
  zat (zcR [D.agg [D.int IntKind.i64 a2_0,D.int IntKind.i64 a2_1,D.int IntKind.i64 a2_2],D.int IntKind.i64 a3,D.sl Tag.lent a4]) fun r1=>
  zed r1 fun ts2=>
  zay ([Lf.any,Lf.any]) ts2 fun c3=>
  za9 c3.fst fun l4=>
  asB c3.snd.fst fun b5=>
  brK (!b5)
    (some (Ans.mk (D.int IntKind.i64 (1:Int)) [] [T0,T1]))
    (sif ((0:Nat)+List.length l4≤List.length l4) <|
    sif (List.length l4=List.length l4) <|
    zcc (α:=(Nat×List D×Int×List D×Int×Int×PUnit)×List (List D)×List (List D)×PUnit) (fun again6 ((x7,(l8,(i9,(l10,(i11,(i12,_)))))),(U13,(U14,_)))=>
      brK (decide (i12 < i11))
        (sif ((0:Int)≤i12) <|
        sif (Int.toNat i12 < List.length l10) <|
        getK l10 ((0:Nat)+Int.toNat i12) fun d15=>
        asSl d15 fun t16 l17=>
        zat (za0 [D.h (3840) x7 (0:Nat),D.sl Tag.lent l8,D.int IntKind.i64 i12] [U13,U14]) fun r18=>
        nilK r18.outs <|
        nilK r18.tbs <|
        asB r18.r fun b19=>
        brK (!b19)
          (letN (IntKind.wrap IntKind.i64 (i12+(1:Int))) fun n20=>
          sif (List.length l10=List.length l10) <|
          again6 (((x7,l8,i9,l10,i11,n20,PUnit.unit),U13,U14,PUnit.unit)))
          (letN (IntKind.wrap IntKind.i64 ((36:Int)+i9)) fun n21=>
          zat (zbd [D.h (3840) x7 (0:Nat),D.int IntKind.i64 i12,D.int IntKind.i64 n21,D.sl t16 l17] [U13,U14]) fun r22=>
          nilK r22.outs <|
          zee r22.tbs fun c23 q24=>
          zee q24 fun c25 q26=>
          nilK q26 <|
          asI IntKind.i64 r22.r fun i27=>
          brK (i27 != (0:Int))
            (some (Ans.mk (D.int IntKind.i64 i27) [] [c23,c25]))
            (letN (IntKind.wrap IntKind.i64 (i12+(1:Int))) fun n28=>
            sif (List.length l10=List.length l10) <|
            again6 (((x7,l8,i9,l10,i11,n28,PUnit.unit),c23,c25,PUnit.unit)))))
        (some (Ans.mk (D.int IntKind.i64 (0:Int)) [] [U13,U14])))
      (((a0,a1,a3,l4,(↑(List.length l4):Int),(0:Int),PUnit.unit),T0,T1,PUnit.unit)))
theorem zq2 (zcR:List D→Option D) (za0:List D→List Tb→Option Ans) (zbd:List D→List Tb→Option Ans) (tga1:Tag) (tga4:Tag) (a0:Nat) (a1:List D) (a2_0:Int) (a2_1:Int) (a2_2:Int) (a3:Int) (a4:List D) (T0:Tb) (T1:Tb):denS Try.prog (zaz [(ID.row_Fill,(.pure [1,0] zcR)),(ID.stripe_up,(.st [] [0] [(3840,false),(7649,false)] za0)),(ID.bench_Bench_Write,(.st [] [0] [(3840,true),(7649,true)] zbd))]) ziV [0] ID.stripe_Write [.h 3840 a0 0,.sl tga1 a1,.agg [.int .i64 a2_0,.int .i64 a2_1,.int .i64 a2_2],.int .i64 a3,.sl tga4 a4] [T0,T1]=zhs zcR za0 zbd a0 (D.lentL a1) a2_0 a2_1 a2_2 a3 (D.lentL a4) T0 T1:=by kernel_rfl
theorem zn6 (tga1:Tag) (tga4:Tag) (a0:Nat) (a1:List D) (a2_0:Int) (a2_1:Int) (a2_2:Int) (a3:Int) (a4:List D) (T0:Tb) (T1:Tb):zbL [.h 3840 a0 0,.sl tga1 a1,.agg [.int .i64 a2_0,.int .i64 a2_1,.int .i64 a2_2],.int .i64 a3,.sl tga4 a4] [T0,T1]=zhs zcR za0 zbd a0 (D.lentL a1) a2_0 a2_1 a2_2 a3 (D.lentL a4) T0 T1:=zq2 zcR za0 zbd tga1 tga4 a0 a1 a2_0 a2_1 a2_2 a3 a4 T0 T1
def zgQ:Ann:={ loops:=[(1,[.val (.cell (.hnd (7649:Nat))),.dead,.dead,.dead,.dead,.dead,.dead,.dead,.dead,.dead,.dead,.dead,.view 7649 1664,.val (.cell (.int .i64)),.val (.cell (.int .i64))])],ks:=[(7649,true)] }
noncomputable def zby:List D→List Tb→Option Ans:=denS Try.prog (zaz []) zgQ [0] ID.disk_Disk_Flush
theorem zkm:za4 Try.prog ID.disk_Disk_Flush (.st [] [0] [(7649,true)] zby):=zbi (zaB []) zbB ⟨Try.f114,by kernel_rfl,by kernel_rfl,by kernel_rfl⟩
noncomputable def zlh:Fact Try.prog:=⟨ID.disk_Disk_Flush,(.st [] [0] [(7649,true)] zby),zkm⟩
noncomputable def zfq (a0:Nat) (T0:Tb):Option Ans:=
  getK T0 a0 fun d1=>
  getK d1 ((1665:Nat)) fun d2=>
  asB d2 fun b3=>
  brK b3
    (some (Ans.mk (D.int IntKind.i64 (5:Int)) [] [T0]))
    (getK T0 a0 fun d4=>
    getK d4 ((1664:Nat)) fun d5=>
    za9 d5 fun l6=>
    getK T0 a0 fun d7=>
    getK d7 ((1664:Nat)) fun d8=>
    za9 d8 fun l9=>
    sif ((0:Nat)+List.length l6≤List.length l9) <|
    zcc (α:=(Nat×(Nat×Nat×Nat)×Int×Int×PUnit)×List (List D)×PUnit) (fun again10 ((x11,((x12,(x13,x14)),(i15,(i16,_)))),(U17,_))=>
      brK (decide (i16 < i15))
        (getK U17 x12 fun d18=>
        getK d18 ((1664:Nat)) fun d19=>
        za9 d19 fun l20=>
        sif ((0:Int)≤i16) <|
        sif (Int.toNat i16 < x14) <|
        getK U17 x12 fun d21=>
        getK d21 ((1664:Nat)) fun d22=>
        za9 d22 fun l23=>
        getK l23 (x13+Int.toNat i16) fun d24=>
        asAgg d24 fun cs25=>
        zay ([Lf.int IntKind.i64,Lf.arr (32)]) cs25 fun c26=>
        sif (D.width (D.agg ([D.int IntKind.i64 c26.fst]++(c26.snd.fst++[])))=(33:Nat)) <|
        sif (List.length ([D.int IntKind.i64 c26.fst]++(c26.snd.fst++[]))=(33:Nat)) <|
        sif ((33:Nat)≤List.length ([D.int IntKind.i64 c26.fst]++(c26.snd.fst++[]))) <|
        sif (List.length (List.take (32:Nat) (List.drop (1:Nat) ([D.int IntKind.i64 c26.fst]++(c26.snd.fst++[]))))=(32:Nat)) <|
        sif ((0:Int)≤c26.fst) <|
        sif (Int.toNat c26.fst < (52:Nat)) <|
        getK U17 x11 fun d27=>
        sif ((0:Nat)+Int.toNat c26.fst*(32:Nat)+(32:Nat)≤List.length d27) <|
        sif (List.length (List.take (32:Nat) (List.drop (1:Nat) ([D.int IntKind.i64 c26.fst]++(c26.snd.fst++[]))))=(32:Nat)) <|
        sif (zhg (List.take (32:Nat) (List.drop (1:Nat) ([D.int IntKind.i64 c26.fst]++(c26.snd.fst++[]))))=true) <|
        sif (zhg (List.take (32:Nat) (List.drop ((0:Nat)+Int.toNat c26.fst*(32:Nat)) d27))=true) <|
        letT (zaU U17 x11 ((0:Nat)+Int.toNat c26.fst*(32:Nat)) (List.take (32:Nat) (List.drop (1:Nat) ([D.int IntKind.i64 c26.fst]++(c26.snd.fst++[]))))) fun U28=>
        letN (IntKind.wrap IntKind.i64 (i16+(1:Int))) fun n29=>
        again10 (((x11,(x12,x13,x14),i15,n29,PUnit.unit),U28,PUnit.unit)))
        (getK U17 x11 fun d30=>
        sif ((1665:Nat)≤List.length d30) <|
        letT (zaU U17 x11 (1664:Nat) [D.sl Tag.own []]) fun U31=>
        some (Ans.mk (D.int IntKind.i64 (0:Int)) [] [U31])))
      (((a0,(a0,(0:Nat),List.length l6),(↑(List.length l6):Int),(0:Int),PUnit.unit),T0,PUnit.unit)))
theorem zn7 (a0:Nat) (T0:Tb):denS Try.prog (zaz []) zgQ [0] ID.disk_Disk_Flush [.h 7649 a0 0] [T0]=zfq a0 T0:=by kernel_rfl
theorem zli (a0:Nat) (T0:Tb):zby [.h 7649 a0 0] [T0]=zfq a0 T0:=zn7 a0 T0
def zfI:Ann:={ loops:=[],ks:=[(3840,false),(7649,true)] }
noncomputable def zbe:List D→List Tb→Option Ans:=denS Try.prog (zaz [(ID.bench_Bench_may,(.st [] [0] [(3840,false)] zau)),(ID.disk_Disk_Flush,(.st [] [0] [(7649,true)] zby))]) zfI [0] ID.bench_Bench_Flush
theorem ziI:za4 Try.prog ID.bench_Bench_Flush (.st [] [0] [(3840,false),(7649,true)] zbe):=zbi (zaB [zd8,zlh]) zbB ⟨Try.f79,by kernel_rfl,by kernel_rfl,by kernel_rfl⟩
noncomputable def zjk:Fact Try.prog:=⟨ID.bench_Bench_Flush,(.st [] [0] [(3840,false),(7649,true)] zbe),ziI⟩
noncomputable def zew (zau:List D→List Tb→Option Ans) (zby:List D→List Tb→Option Ans) (a0:Nat) (a1:Int) (T0:Tb) (T1:Tb):Option Ans:=
  zat (zau [D.h (3840:Nat) a0 (0:Nat),D.int IntKind.i64 a1] [T0]) fun r1=>
  nilK r1.outs <|
  nilK r1.tbs <|
  asI IntKind.i64 r1.r fun i2=>
  brK (i2 != (0:Int))
    (some (Ans.mk (D.int IntKind.i64 i2) [] [T1]))
    (getK T0 a0 fun d3=>
    getK d3 ((3:Nat)) fun d4=>
    za9 d4 fun l5=>
    getK T0 a0 fun d6=>
    getK d6 ((3:Nat)) fun d7=>
    za9 d7 fun l8=>
    sif ((0:Int)≤a1) <|
    sif (Int.toNat a1 < List.length l5) <|
    getK T0 a0 fun d9=>
    getK d9 ((3:Nat)) fun d10=>
    za9 d10 fun l11=>
    getK l11 ((0:Nat)+Int.toNat a1) fun d12=>
    sif (D.isAgg d12=false) <|
    sif (D.width d12=(1:Nat)) <|
    sif (D.cell d12=true) <|
    zat (zby [d12] [T1]) fun r13=>
    nilK r13.outs <|
    zee r13.tbs fun c14 q15=>
    nilK q15 <|
    asI IntKind.i64 r13.r fun i16=>
    some (Ans.mk (D.int IntKind.i64 i16) [] [c14]))
theorem zmd (zau:List D→List Tb→Option Ans) (zby:List D→List Tb→Option Ans) (a0:Nat) (a1:Int) (T0:Tb) (T1:Tb):denS Try.prog (zaz [(ID.bench_Bench_may,(.st [] [0] [(3840,false)] zau)),(ID.disk_Disk_Flush,(.st [] [0] [(7649,true)] zby))]) zfI [0] ID.bench_Bench_Flush [.h 3840 a0 0,.int .i64 a1] [T0,T1]=zew zau zby a0 a1 T0 T1:=by kernel_rfl
theorem zjl (a0:Nat) (a1:Int) (T0:Tb) (T1:Tb):zbe [.h 3840 a0 0,.int .i64 a1] [T0,T1]=zew zau zby a0 a1 T0 T1:=zmd zau zby a0 a1 T0 T1
def ziW:Ann:={ loops:=[(0,[.val (.cell (.hnd (3840:Nat))),.val (.cell .lent),.dead,.dead,.dead,.dead,.dead,.dead,.val (.cell (.int .i64)),.val (.cell (.int .i64))])],ks:=[(3840,false),(7649,true)] }
noncomputable def zbM:List D→List Tb→Option Ans:=denS Try.prog (zaz [(ID.bench_Bench_Len,(.st [] [0] [(3840,false)] zaK)),(ID.stripe_up,(.st [] [0] [(3840,false),(7649,false)] za0)),(ID.bench_Bench_Flush,(.st [] [0] [(3840,false),(7649,true)] zbe))]) ziW [0] ID.stripe_Flush
theorem zng:za4 Try.prog ID.stripe_Flush (.st [] [0] [(3840,false),(7649,true)] zbM):=zbi (zaB [zfY,zhl,zjk]) zbB ⟨Try.f34,by kernel_rfl,by kernel_rfl,by kernel_rfl⟩
noncomputable def zn8:Fact Try.prog:=⟨ID.stripe_Flush,(.st [] [0] [(3840,false),(7649,true)] zbM),zng⟩
noncomputable def zht (zaK:List D→List Tb→Option Ans) (za0:List D→List Tb→Option Ans) (zbe:List D→List Tb→Option Ans) (a0:Nat) (a1:List D) (T0:Tb) (T1:Tb):Option Ans:=
  zat (zaK [D.h (3840:Nat) a0 (0:Nat)] [T0]) fun r1=>
  nilK r1.outs <|
  nilK r1.tbs <|
  asI IntKind.i64 r1.r fun i2=>
  zcc (α:=(Nat×List D×Int×Int×PUnit)×List (List D)×List (List D)×PUnit) (fun again3 ((x4,(l5,(i6,(i7,_)))),(U8,(U9,_)))=>
    brK (decide (i7 < i6))
      (zat (za0 [D.h (3840) x4 (0:Nat),D.sl Tag.lent l5,D.int IntKind.i64 i7] [U8,U9]) fun r10=>
      nilK r10.outs <|
      nilK r10.tbs <|
      asB r10.r fun b11=>
      brK (!b11)
        (letN (IntKind.wrap IntKind.i64 (i7+(1:Int))) fun n12=>
        again3 (((x4,l5,i6,n12,PUnit.unit),U8,U9,PUnit.unit)))
        (zat (zbe [D.h (3840) x4 (0:Nat),D.int IntKind.i64 i7] [U8,U9]) fun r13=>
        nilK r13.outs <|
        zee r13.tbs fun c14 q15=>
        nilK q15 <|
        asI IntKind.i64 r13.r fun i16=>
        brK (i16 != (0:Int))
          (some (Ans.mk (D.int IntKind.i64 i16) [] [c14]))
          (letN (IntKind.wrap IntKind.i64 (i7+(1:Int))) fun n17=>
          again3 (((x4,l5,i6,n17,PUnit.unit),U8,c14,PUnit.unit)))))
      (some (Ans.mk (D.int IntKind.i64 (0:Int)) [] [U9])))
    (((a0,a1,i2,(0:Int),PUnit.unit),T0,T1,PUnit.unit))
theorem zq3 (zaK:List D→List Tb→Option Ans) (za0:List D→List Tb→Option Ans) (zbe:List D→List Tb→Option Ans) (tga1:Tag) (a0:Nat) (a1:List D) (T0:Tb) (T1:Tb):denS Try.prog (zaz [(ID.bench_Bench_Len,(.st [] [0] [(3840,false)] zaK)),(ID.stripe_up,(.st [] [0] [(3840,false),(7649,false)] za0)),(ID.bench_Bench_Flush,(.st [] [0] [(3840,false),(7649,true)] zbe))]) ziW [0] ID.stripe_Flush [.h 3840 a0 0,.sl tga1 a1] [T0,T1]=zht zaK za0 zbe a0 (D.lentL a1) T0 T1:=by kernel_rfl
theorem zn9 (tga1:Tag) (a0:Nat) (a1:List D) (T0:Tb) (T1:Tb):zbM [.h 3840 a0 0,.sl tga1 a1] [T0,T1]=zht zaK za0 zbe a0 (D.lentL a1) T0 T1:=zq3 zaK za0 zbe tga1 a0 a1 T0 T1
end Wf

namespace Wf
open Go Go.RowKit Go.Proofs
set_option linter.unusedSimpArgs false
set_option linter.unusedVariables false
theorem zuP (c:Int):zaL [.sl .full [.int .i64 1,.int .i64 2,.int .i64 4],.int .i64 c]=some (.bool (c == 1 || c == 2 || c == 4)):=by
  rw [zgb]
  unfold zcZ
  rw [zhj]
  unfold zdp
  obtain ⟨m,hm⟩:=zzw
  by_cases h1:c=1<;>by_cases h2:c=2<;>by_cases h4:c=4<;>
    simp [zcc,hm,fixN,zb7,h1,h2,h4,zaq]<;>omega
theorem zh3 (l d c:Int):zar [gD l d c]=some (iD (if ze2 l d c then 0 else 1)):=by
  rw [zqf]
  unfold zj1
  have hc:=zuP c
  unfold ze2
  obtain ⟨q,hq⟩:∃ q,(c == 1 || c == 2 || c == 4)=q:=⟨_,rfl⟩
  rw [hq] at hc ⊢
  by_cases h5:l=5
  · subst h5
    by_cases h3:d < 3<;>by_cases h8:8 < d<;>cases q<;>simp [zxv,zhz,setD,hc,zb7,h3,h8]<;>omega
  · by_cases h6:l=6
    · subst h6
      by_cases h3:d < 4<;>by_cases h8:8 < d<;>cases q<;>simp [zxv,zhz,setD,hc,zb7,h3,h8]<;>omega
    · simp [zxv,zhz,setD,hc,zb7,h5,h6]
theorem zqu (l d c:Int):zbc [gD l d c]=some (iD (zlM l d c)):=by
  rw [zoM]
  unfold ziA zlM
  rw [zh3]
  cases h:ze2 l d c
  · simp [zb7]
  · have:=zjJ.1 h
    simp [zb7]
    exact zaq (by omega) (by omega)
theorem zxS (l d c:Int):zaM [gD l d c]=some (iD (zux l d c)):=by
  rw [zqi]
  unfold zj6 zux
  rw [zh3,zqu]
  unfold zlM
  cases h:ze2 l d c
  · simp [zb7]
  · have:=zjJ.1 h
    simp [zb7]
    exact zaq (by omega) (by omega)
theorem znh (l d c:Int):zaf [gD l d c]=some (.bool (ze2 l d c)):=by
  rw [zi0]
  unfold zep ze2
  by_cases h5:l=5
  · subst h5
    by_cases h3:3≤d<;>by_cases h8:d≤8<;>simp [zb7,h3,h8]<;>by_cases h1:c=1<;>by_cases h2:c=2<;>simp [h1,h2]<;>omega
  · by_cases h6:l=6
    · subst h6
      by_cases h3:4≤d<;>by_cases h8:d≤8<;>simp [zb7,h3,h8]<;>by_cases h1:c=1<;>by_cases h2:c=2<;>simp [h1,h2]<;>omega
    · simp [zb7,h5,h6]
theorem zrY (l d c:Int):zaA [gD l d c]=some (iD (zlM l d c)):=by
  rw [zim]
  unfold zd1 zlM
  rw [znh]
  cases h:ze2 l d c
  · simp [zb7]
  · have:=zjJ.1 h
    simp [zb7]
    exact zaq (by omega) (by omega)
theorem zzC (l d c:Int):zac [gD l d c]=some (iD (zux l d c)):=by
  rw [zi1]
  unfold zeq zux
  rw [znh,zrY]
  unfold zlM
  cases h:ze2 l d c
  · simp [zb7]
  · have:=zjJ.1 h
    simp [zb7]
    exact zaq (by omega) (by omega)
theorem zqv (a n:Int) (h:1≤n) (h9:n < 1000000000):zaa [.int .i64 a,.int .i64 n]=some (iD (a % n)):=by
  rw [ziZ]
  unfold zeo
  have hm:=zxJ a n h
  have hlt:=Int.lt_tmod_of_pos a (show 0 < n by omega)
  have h1:¬ n < 1:=by omega
  have h0:n≠0:=by omega
  rcases hm with ⟨k1,k2⟩ | ⟨k1,k2⟩
  · simp [zb7,h1,h0,Int.not_lt.2 k1,k2]
  · simp [zb7,h1,h0,k1,k2]
    exact zaq (by omega) (by omega)
theorem zzD (n:Int):zbs [.int .i64 n]=some (zuy n).D:=by
  rw [zkT]
  unfold zff
  have w5:IntKind.i64.wrap (5+n % 2)=5+n % 2:=zaq (by omega) (by omega)
  have w3:IntKind.i64.wrap (3+qn n 6 % 4)=3+qn n 6 % 4:=zaq (by omega) (by omega)
  have w4:IntKind.i64.wrap (4+qn n 6 % 4)=4+qn n 6 % 4:=zaq (by omega) (by omega)
  have w12:IntKind.i64.wrap (n % 12 - 1)=n % 12 - 1:=zaq (by omega) (by omega)
  have w9:IntKind.i64.wrap (n % 9 - 1)=n % 9 - 1:=zaq (by omega) (by omega)
  have h0:0≤qn n 2 % 3:=by omega
  have h3:qn n 2 % 3 < 3:=by omega
  have e2:IntKind.i64.wrap (n.tdiv 2)=qn n 2:=rfl
  have e6:IntKind.i64.wrap (n.tdiv 6)=qn n 6:=rfl
  have e24:IntKind.i64.wrap (n.tdiv 24)=qn n 24:=rfl
  simp only [zqv _ _ (show (1:Int)≤2 by decide) (show (2:Int) < 1000000000 by decide),zqv _ _ (show (1:Int)≤3 by decide) (show (3:Int) < 1000000000 by decide),zqv _ _ (show (1:Int)≤4 by decide) (show (4:Int) < 1000000000 by decide),
    zqv _ _ (show (1:Int)≤9 by decide) (show (9:Int) < 1000000000 by decide),zqv _ _ (show (1:Int)≤12 by decide) (show (12:Int) < 1000000000 by decide),zqv _ _ (show (1:Int)≤40 by decide) (show (40:Int) < 1000000000 by decide),
    zag,iD,zbE,zaN,w5,w3,w4,w12,w9,e2,e6,e24,zab h0,zAV _ h0 h3]
  unfold Geo.D zuy
  have hl:n % 2=0∨n % 2=1:=by omega
  by_cases k1:qn n 24 % 40=36<;>by_cases k2:qn n 24 % 40=37<;>by_cases k3:qn n 24 % 40=38<;>by_cases k4:qn n 24 % 40=39<;>rcases hl with hl | hl<;>
    simp [zb7,k1,k2,k3,k4,hl]<;>omega
theorem zzE (n:Int):zbt [.int .i64 n]=some (zuz n).D:=by
  rw [zkV]
  unfold zfg
  rw [zzD]
  unfold zuz
  obtain ⟨l,d,c⟩:=zuy n
  simp only [zag,Geo.D,zmC,zun,zg5,znh,zcU,Geo.ok]
  by_cases h:ze2 l d c=true
  · simp [zb7,h]
  · simp only [Bool.not_eq_true] at h; simp [zb7,h]
theorem zuQ (g:Geo):zaM [gD g.l g.d g.c]=some (iD g.width):=zxS ..
theorem zrZ (g:Geo):zac [gD g.l g.d g.c]=some (iD g.width):=zzC ..
section
variable (a b c x y z k:Int)
end
section
variable (g:Geo) (a row k:Int)
theorem zw1:zbP [g.D,.int .i64 row]=some (.bool (zcw g row)):=by
  unfold Geo.D
  rw [zs2]
  unfold znS
  rw [zh3]
  unfold zcw Geo.ok
  cases ze2 g.l g.d g.c<;>simp [zb7]<;>(by_cases h:0≤row<;>simp [h])
theorem ztj:zap [g.D,.int .i64 row]=some (.bool (zcw g row)):=by
  unfold Geo.D
  rw [zjM]
  unfold zeM
  rw [znh]
  unfold zcw Geo.ok
  cases ze2 g.l g.d g.c<;>simp [zb7]<;>(by_cases h:0≤row<;>simp [h])
theorem zuR:zaG [g.D,.int .i64 row]=some (.tup [iD (parP g row).1,iD (parP g row).2]):=by
  have hi:=zw1 g row
  unfold Geo.D at*
  rw [znT]
  unfold zhm
  rw [hi]
  unfold parP
  cases h:zcw g row
  · simp [zb7]
  · obtain ⟨hk,h0,h1⟩:=zbT.1 h
    have hd:=ok_d hk
    have hv:=zEg hk h0
    have hp:=zlo hk row
    have w1:IntKind.i64.wrap (g.d - 1)=g.d - 1:=zaq (by omega) (by omega)
    have w2:IntKind.i64.wrap (row.tdiv g.c)=row / g.c:=by rw [zBS hk h0]; exact zaq (by omega) (by omega)
    have w3:IntKind.i64.wrap (g.d - 1 - (row / g.c).tmod g.d)=parA g row:=by rw [zrP hv.1]; exact zaq (by unfold parA at hp; omega) (by unfold parA at hp; omega)
    have w4:IntKind.i64.wrap (parA g row+1)=parA g row+1:=zaq (by omega) (by omega)
    have t4:(parA g row+1).tmod g.d=(parA g row+1) % g.d:=zrP (by omega)
    by_cases h5:g.l=5
    · simp [zb7,show g.c≠0 by omega,show g.d≠0 by omega,w1,w2,w3,h5]
    · simp [zb7,show g.c≠0 by omega,show g.d≠0 by omega,w1,w2,w3,h5,w4,t4]
theorem zzF:zax [g.D,.int .i64 row]=some (.tup [iD (parP g row).1,iD (parP g row).2]):=by
  have hi:=ztj g row
  unfold Geo.D at*
  rw [zir]
  unfold zd3
  rw [hi]
  unfold parP
  cases h:zcw g row
  · simp [zb7]
  · obtain ⟨hk,h0,h1⟩:=zbT.1 h
    have hd:=ok_d hk
    have hv:=zEg hk h0
    have hp:=zlo hk row
    have w1:IntKind.i64.wrap (g.d - 1)=g.d - 1:=zaq (by omega) (by omega)
    have w2:IntKind.i64.wrap (row.tdiv g.c)=row / g.c:=by rw [zBS hk h0]; exact zaq (by omega) (by omega)
    have w3:IntKind.i64.wrap (g.d - 1 - (row / g.c).tmod g.d)=parA g row:=by rw [zrP hv.1]; exact zaq (by unfold parA at hp; omega) (by unfold parA at hp; omega)
    have w4:IntKind.i64.wrap (parA g row+1)=parA g row+1:=zaq (by omega) (by omega)
    have t4:(parA g row+1).tmod g.d=(parA g row+1) % g.d:=zrP (by omega)
    by_cases h5:g.l=5
    · simp [zb7,show g.c≠0 by omega,show g.d≠0 by omega,w1,w2,w3,h5]
    · simp [zb7,show g.c≠0 by omega,show g.d≠0 by omega,w1,w2,w3,h5,w4,t4]
theorem zxT:zbg [g.D,.int .i64 row,.int .i64 k]=some (iD (zdu g row k)):=by
  have hi:=zw1 g row
  have hp:=zuR g row
  unfold Geo.D at*
  rw [zqj]
  unfold zj8
  rw [hi,hp,zuQ,zqu]
  unfold zdu
  cases h:zcw g row
  · simp [zb7]
  · obtain ⟨hk,h0,h1⟩:=zbT.1 h
    have hd:=ok_d hk
    have hw:=zdW hk
    have hb:=zuA hk
    have hl:=zg7.1 hk
    have hpa:=zlo hk row
    by_cases k0:k < 0
    · simp [zb7,k0,show ¬ 0≤k by omega]
    · by_cases k1:g.width≤k
      · simp [zb7,k0,k1,show ¬ k < g.width by omega]
      · have w1:IntKind.i64.wrap (parA g row+(g.l - 4))=parA g row+(g.l - 4):=zaq (by omega) (by omega)
        have w2:IntKind.i64.wrap (parA g row+(g.l - 4)+k)=parA g row+(g.l - 4)+k:=zaq (by omega) (by omega)
        have t2:(parA g row+(g.l - 4)+k).tmod g.d=(parA g row+(g.l - 4)+k) % g.d:=zrP (by omega)
        have hp1:(parP g row).1=parA g row:=by unfold parP; simp [h]
        simp [zb7,k0,k1,show 0≤k by omega,show k < g.width by omega,hb,hp1,w1,w2,t2,show g.d≠0 by omega]
theorem zBb:zbb [g.D,.int .i64 row,.int .i64 k]=some (iD (zdu g row k)):=by
  have hi:=ztj g row
  have hp:=zzF g row
  unfold Geo.D at*
  rw [zjO]
  unfold zeO
  rw [hi,hp,zrZ,zrY]
  unfold zdu
  cases h:zcw g row
  · simp [zb7]
  · obtain ⟨hk,h0,h1⟩:=zbT.1 h
    have hd:=ok_d hk
    have hw:=zdW hk
    have hb:=zuA hk
    have hl:=zg7.1 hk
    have hpa:=zlo hk row
    by_cases k0:k < 0
    · simp [zb7,k0,show ¬ 0≤k by omega]
    · by_cases k1:g.width≤k
      · simp [zb7,k0,k1,show ¬ k < g.width by omega]
      · have w1:IntKind.i64.wrap (parA g row+(g.l - 4))=parA g row+(g.l - 4):=zaq (by omega) (by omega)
        have w2:IntKind.i64.wrap (parA g row+(g.l - 4)+k)=parA g row+(g.l - 4)+k:=zaq (by omega) (by omega)
        have t2:(parA g row+(g.l - 4)+k).tmod g.d=(parA g row+(g.l - 4)+k) % g.d:=zrP (by omega)
        have hp1:(parP g row).1=parA g row:=by unfold parP; simp [h]
        simp [zb7,k0,k1,show 0≤k by omega,show k < g.width by omega,hb,hp1,w1,w2,t2,show g.d≠0 by omega]
end
section
variable (l d c a row k:Int)
end
section
variable (g:Geo) (row k:Int)
end
section
variable (l d c row k:Int)
end
end Wf

namespace Wf
open Go Go.RowKit Go.Proofs
set_option linter.unusedSimpArgs false
set_option linter.unusedVariables false
theorem zoa (a n:Int) (h:1≤n) (h9:n < 1000000000):zaa [.int .i64 a,.int .i64 n]=some (.int .i64 (a % n)):=zqv a n h h9
theorem zuS (t t':Tag) (l m:List Int) (hl:l.length < 1000000000):zav [.sl t (uL l),.sl t' (uL m)]=some (.bool (decide (l=m))):=by
  rw [zhq,zcN,zcN]
  unfold zdq
  by_cases hlen:l.length=m.length
  · simp only [zdt,hlen,bne_self_eq_false,zaw]
    refine zkE (fun a=>(m.length:Int).toNat - a.1.2.2.1.toNat) (fun _=>some (D.bool (decide (l=m))))
      (fun a=>∃ k:Nat,k≤m.length∧l.take k=m.take k∧a=((uL l,uL m,(k:Int),PUnit.unit),PUnit.unit)) ?_ ⟨0,by omega,by simp,rfl⟩ (by simp; omega)
    rintro again _ ⟨k,hk,he,rfl⟩ hag
    dsimp only
    rw [zdt,hlen]
    by_cases hkm:k < m.length
    · have h1:l[k]? =some l[k]:=List.getElem?_eq_getElem (by omega)
      have h2:m[k]? =some m[k]:=List.getElem?_eq_getElem hkm
      have hd:decide ((k:Int) < (m.length:Int))=true:=by simp; omega
      rw [hd,zaY,zab (by omega),zan (by simpa using ziO h1),zbE,zab (by omega),zan (by simpa using ziO h2),zbE]
      by_cases hx:l[k]=m[k]
      · have hb:(l[k] != m[k])=false:=by simp [hx]
        rw [hb,zaw,zaN,zaq (by omega) (by omega)]
        exact hag _ ⟨k+1,by omega,by rw [List.take_add_one,List.take_add_one,he,h1,h2,hx],rfl⟩ (by simp; omega)
      · have hb:(l[k] != m[k])=true:=by simp [hx]
        rw [hb,zaY]
        congr 2
        symm
        simp
        intro e
        subst e
        exact hx rfl
    · have hd:decide ((k:Int) < (m.length:Int))=false:=by simp; omega
      rw [hd,zaw]
      have:l=m:=by
        have e1:l.take k=l:=List.take_of_length_le (by omega)
        have e2:m.take k=m:=List.take_of_length_le (by omega)
        rw [←e1,←e2,he]
      simp [this]
  · have hb:((l.length:Int) != (m.length:Int))=true:=by simp; omega
    simp only [zdt,hb,zaY]
    congr 2
    symm
    simp
    intro e; subst e; exact hlen rfl
theorem zdn {R:Type} (a:Int) {b:List Int} (h:b.length=32) (f:LfT [.int .i64,.arr 32]→Option R):zay [.int .i64,.arr 32] (.int .i64 a::uL b) f=f (a,uL b,()):=by
  have e1:(uL b).take 32=uL b:=List.take_of_length_le (by simp [h])
  have e2:(uL b).drop 32=[]:=List.drop_of_length_le (by simp [h])
  simp [zay,zdj,Lf.get,h,e1,e2]
theorem zob {R:Type} {b:List Int} (h:b.length=32) (f:LfT [.arr 32]→Option R):zay [.arr 32] (uL b) f=f (uL b,()):=by
  have e1:(uL b).take 32=uL b:=List.take_of_length_le (by simp [h])
  have e2:(uL b).drop 32=[]:=List.drop_of_length_le (by simp [h])
  simp [zay,zdj,Lf.get,h,e1,e2]
theorem zEh {T:Tb} {i:Nat} {s:DS} (h:T[i]? =some s.cells) (hs:s.Ok) (a:Int):zaS [.h kD i 0,.int .i64 a] [T]=some (Ans.mk (.int .i64 (s.may a)) [] []):=by
  rw [zmU]
  unfold zgD DS.may
  rw [zan h,zan (zmK hs.len),zcU]
  cases hf:s.failed
  · by_cases h0:a < 0
    · simp [zb7,h0]
    · by_cases h1:52≤a
      · simp [zb7,h0,h1]
      · simp [zb7,h0,h1]
  · simp [zb7]
theorem zBc {T:Tb} {i:Nat} {s:DS} (h:T[i]? =some s.cells) (hs:s.Ok):zbm [.h kD i 0] [T]=some (Ans.mk (.bool s.failed) [] []):=by
  rw [zjZ]
  unfold zeT
  rw [zan h,zan (zmK hs.len),zcU]
theorem zqw {b:List Int} (h:b.length≤4294967296) (tg:Tag):zak [.sl tg (uL b)]=some (.sl .own (uL b)):=by
  cases b with
  | nil=>exact zgd tg
  | cons n b=>
    show zak [.sl tg (.int .u8 n::uL b)]=some (.sl .own (.int .u8 n::uL b))
    rw [zgI,zcN]
    unfold zc5
    have h1:(D.lent (.int .u8 n)::uL b)=uL (n::b):=by simp [uL]
    rw [h1]
    simp only [zdt,zAP,zgv,zab,h]
    simp [uL]
theorem zBU (w:Int×List Int):(wD w).free=true:=by
  simp only [wD,D.free,D.freeL,zsR,Bool.and_self]
theorem zBV (w:Int×List Int):(wD w).lent=wD w:=by
  simp only [wD,D.lent,D.lentL,zcN]
theorem zzG (p:List (Int×List Int)):D.lentL (p.map wD)=p.map wD:=by
  induction p with
  | nil=>rfl
  | cons w p ih=>simp [ih,zBV]
theorem zC2 {p:List (Int×List Int)} (h:∀ w∈p,Sec w.2):zdZ 33 (p.map wD)=true:=by
  simp only [zdZ,List.all_map,List.all_eq_true]
  intro w hw
  have:=(h w hw).len
  simp [wD,D.width,D.isAgg,D.cell,this]
theorem zzH {p:List (Int×List Int)} (hp:∀ w∈p,Sec w.2) (h:p.length≤4294967296) (tg:Tag):zad [.sl tg (p.map wD)]=some (.sl .own (p.map wD)):=by
  cases p with
  | nil=>exact zdw tg
  | cons w p=>
    have hok:=zC2 hp
    rw [List.map_cons] at hok ⊢
    rw [zdI,zzG,zBV]
    unfold zb1
    have hf:(wD w::p.map wD).all D.free=true:=by
      rw [←List.map_cons (f:=wD),List.all_map,List.all_eq_true]; intro w _; exact zBU w
    have hl:(wD w::p.map wD).length≤4294967296:=by simpa using h
    simp only [zab,hl,hok,hf]
theorem zzI {p:List (Int×List Int)} {k:Nat} {w:Int×List Int} (h:p[k]? =some w):(p.map wD)[k]? =some (.agg (.int .i64 w.1::uL w.2)):=by simp [h,wD]
theorem zqx (l:List D):D.width (.agg l)=l.length:=rfl
theorem zEi {T:Tb} {i:Nat} {s:DS} (h:T[i]? =some s.cells) (hs:s.Ok) (hn:s.pend.length≤1000000) (a:Int):
    zbD [.h kD i 0,.int .i64 a] [T]=some (Ans.mk (.tup [.sl .own (uL (s.read a).1),.int .i64 (s.read a).2]) [] []):=by
  rw [zl3]
  unfold zfM DS.read
  rw [zEh h hs a,zag,zei,zei,zbE]
  by_cases hm:s.may a=0
  · rw [hm]
    have hb:((0:Int) != 0)=false:=rfl
    rw [hb,zaw,if_neg (by simp)]
    have ha:0≤a∧a < 52:=by
      unfold DS.may at hm
      split at hm
      · omega
      · split at hm<;>omega
    have hp:=znC (s:=s) hs.len
    have hbase:=zvK (s:=s) hs.len (a:=a.toNat) (by omega)
    have hsec:=zAQ hs (a:=a.toNat) (by omega)
    rw [zab ha.1,zab (by omega),zan h,zab (by rw [ziP hs.len]; omega),Nat.zero_add,hbase]
    rw [zab (zsQ _),zab (by simp [hsec.len]),zab (by simp [hsec.len]),zan h,zan hp,zbV,zan h,zan hp,zbV,zab (by simp)]
    rw [zob hsec.len,List.length_map]
    refine zcF (R:=Ans) (α:=(Int×(List D×PUnit)×(Nat×Nat×Nat)×Int×Int×PUnit)×List (List D)×PUnit)
      (fun k=>((a,(uL (look (s.pend.take k) a (s.base a.toNat)),PUnit.unit),(i,0,s.pend.length),(s.pend.length:Int),(k:Int),PUnit.unit),T,PUnit.unit)) s.pend.length (by omega) ?_ ?_
    · intro again k hk
      dsimp only
      obtain ⟨w,hw⟩:∃ w,s.pend[k]? =some w:=⟨_,List.getElem?_eq_getElem hk⟩
      have hws:=hs.ps w (List.mem_of_getElem? hw)
      have hd:decide ((k:Int) < (s.pend.length:Int))=true:=by simp; omega
      have hlk:(look (s.pend.take k) a (s.base a.toNat)).length=32:=zwU (fun w hw=>(hs.ps w (List.mem_of_mem_take hw)).len) hsec.len
      rw [hd,zaY,zan h,zan hp,zbV,zab (by omega),zab (by simpa using hk),zan h,zan hp,zbV,zan (by simpa using zzI hw),zmC,zdn _ hws.len]
      dsimp only
      simp only [List.append_nil,List.cons_append,List.nil_append,zqx,List.length_cons,zdt,hws.len,hlk,zab]
      by_cases hwa:w.1=a
      · have hb:(w.1 == a)=true:=by simp [hwa]
        rw [hb,zaY,List.drop_succ_cons,List.drop_zero]
        have et:(uL w.2).take 32=uL w.2:=List.take_of_length_le (by simp [hws.len])
        rw [et,zab (by omega),zab (by simp [hws.len]),zab (by simp [hws.len]),zab (by omega),zaN,zaq (by omega) (by omega),zBF (by simp [hws.len])]
        have e3:(uL (look (s.pend.take k) a (s.base a.toNat))).take 0++uL w.2++(uL (look (s.pend.take k) a (s.base a.toNat))).drop (0+32)=uL w.2:=by
          rw [List.drop_of_length_le (by simp [hlk])]; simp
        rw [e3,zob hws.len,zus hw,if_pos hwa]
        rfl
      · have hb:(w.1 == a)=false:=by simp [hwa]
        rw [hb,zaw,zaN,zaq (by omega) (by omega),zob hlk,zus hw,if_neg hwa]
        rfl
    · intro again
      have hlk:=zwU (p:=s.pend) (a:=a) (fun w hw=>(hs.ps w hw).len) hsec.len
      have hd:decide ((s.pend.length:Int) < (s.pend.length:Int))=false:=by simp
      dsimp only
      rw [hd,zaw,List.take_length]
      simp only [List.append_nil,zdt,hlk,Nat.le_refl,zab]
      have ec:cut 0 32 (uL (look s.pend a (s.base a.toNat)))=uL (look s.pend a (s.base a.toNat)):=by
        have:=zc3 (uL (look s.pend a (s.base a.toNat)))
        rw [zdt,hlk] at this; exact this
      rw [ec,zqw (by rw [hlk]; omega),zag,zbV]
      simp
      rfl
  · have hb:(s.may a != 0)=true:=by simp [hm]
    rw [hb,zaY,if_pos hm]
    rfl
theorem zC3 {T:Tb} {i:Nat} {s:DS} (h:T[i]? =some s.cells) (hs:s.Ok) (a:Int) (tg:Tag) (b:List Int):
    zaT [.h kD i 0,.int .i64 a,.sl tg (uL b)] [T]=some (Ans.mk (.tup [wD (putR s a b).1,.int .i64 (putR s a b).2]) [] []):=by
  rw [zmV,zcN]
  unfold zgE putR
  rw [zEh h hs a,zag,zei,zei,zbE]
  by_cases hm:s.may a=0
  · rw [hm]
    have hb:((0:Int) != 0)=false:=rfl
    rw [hb,zaw,if_neg (by simp)]
    by_cases hl:b.length=32
    · have hb2:(((uL b).length:Int) != 32)=false:=by simp [hl]
      rw [hb2,zaw,if_neg (by simp [hl]),zab (zwT _),zab (by simp [hl])]
      have et:(D.int .i64 a::uL b).take 33=.int .i64 a::uL b:=List.take_of_length_le (by simp [hl])
      simp only [List.append_nil,List.cons_append,List.nil_append,List.length_cons,zdt,hl,List.drop_zero,et]
      rw [zab (by omega),zdn _ hl]
      dsimp only
      simp only [zdt,hl,Nat.le_refl,zab,List.take_of_length_le,et]
      rw [zdn _ hl]
      dsimp only
      rw [zab (by simp only [D.free,D.freeL,zsR,Bool.and_self])]
      rfl
    · have hb2:(((uL b).length:Int) != 32)=true:=by simp; omega
      rw [hb2,zaY,if_pos hl]
      rfl
  · have hb:(s.may a != 0)=true:=by simp [hm]
    rw [hb,zaY,if_pos hm]
    rfl
theorem zC4 (w:Int×List Int) (hw:Sec w.2) (c:Int):zaD [wD w,.at_ (.int .i64 c)]=some (.bool (w.1 == c)):=by
  unfold wD
  rw [zit]
  unfold zd4
  rw [show D.lentL (.int .i64 w.1::uL w.2)=.int .i64 w.1::uL w.2 by simp [zcN],zdn _ hw.len]
theorem zv2 {p:List (Int×List Int)} (hp:∀ w∈p,Sec w.2) {c:Int} (hc:∀ w∈p,w.1≠c) (hn:p.length≤1000000) (tg:Tag):
    zam [.sl tg (p.map wD),.fn ID.disk_Disk_Damage_1 [] [.at_ (.int .i64 c)]]=some (.int .i64 (-1)):=by
  rw [zcG,zzG]
  unfold zbz
  rw [List.length_map]
  refine zcF (R:=D) (α:=(List D×Int×Int×Int×PUnit)×PUnit) (fun k=>((p.map wD,c,(p.length:Int),(k:Int),PUnit.unit),PUnit.unit)) p.length (by omega) ?_ ?_
  · intro again k hk
    dsimp only
    obtain ⟨w,hw⟩:∃ w,p[k]? =some w:=⟨_,List.getElem?_eq_getElem hk⟩
    have hws:=hp w (List.mem_of_getElem? hw)
    have hd:decide ((k:Int) < (p.length:Int))=true:=by simp; omega
    rw [hd,zaY,zab (by omega),zan (by simpa using zzI hw),zmC,zdn _ hws.len]
    dsimp only
    simp only [List.append_nil,List.cons_append,List.nil_append,zqx,List.length_cons,zdt,hws.len,zab]
    rw [zdn _ hws.len]
    dsimp only
    rw [zdt,hws.len,zab (by omega)]
    have:=zC4 w hws c
    unfold wD at this
    rw [this,zag,zcU]
    have hb:(w.1 == c)=false:=by simp [hc w (List.mem_of_getElem? hw)]
    rw [hb,zaw,zaN,zaq (by omega) (by omega)]
    rfl
  · intro again
    have hd:decide ((p.length:Int) < (p.length:Int))=false:=by simp
    dsimp only
    rw [hd,zaw]
theorem zuT {p:List (Int×List Int)} (hp:∀ w∈p,Sec w.2) {c:Int} (hc:∀ w∈p,w.1≠c) (hn:p.length≤1000000):
    zai [.sl .own (p.map wD),.fn ID.disk_Disk_Damage_1 [] [.at_ (.int .i64 c)]] []=some (Ans.mk (.sl .own (p.map wD)) [] []):=by
  rw [zcD]
  unfold zbq
  rw [zab (by omega),zc3,zv2 hp hc hn,zag,zbE]
  have hb:((-1:Int) == -1)=true:=rfl
  have hf:(p.map wD).all D.free=true:=by rw [List.all_map,List.all_eq_true]; intro w _; exact zBU w
  rw [hb,zaY,zab (by rfl),zab hf]
theorem zni (p:List (Int×List Int)):zc2 (p.map wD)=true:=by
  simp only [zc2,List.all_map,List.all_eq_true]
  intro w _
  simp [wD,D.flatEl,D.flat,uL]
theorem ztk {p:List (Int×List Int)} (h:∀ w∈p,Sec w.2):zfz 33 (p.map wD)=true:=by
  simp only [zfz,List.all_map,List.all_eq_true]
  intro w hw
  have:=(h w hw).len
  simp [wD,D.width,this]
theorem zBd {T:Tb} {i:Nat} {s:DS} (h:T[i]? =some s.cells) (hs:s.Ok) (hn:s.pend.length≤1000000) {a:Int} (hc:∀ w∈s.pend,w.1≠a) (tg:Tag) (b:List Int):
    zbl [.h kD i 0,.int .i64 a,.sl tg (uL b)] [T]=some (Ans.mk (.int .i64 (s.damage a b).1) [] [T.set i (s.damage a b).2.cells]):=by
  rw [zjU,zcN]
  unfold zeR DS.damage
  have hpl:=zwV s a b
  rw [zC3 h hs,zag,zei,zei,zmD,zeA,zeA,zg5]
  dsimp only
  unfold wD
  rw [zmC,zdn _ hpl,zbE]
  dsimp only
  rw [zab (by simp [hpl])]
  by_cases he:(putR s a b).2=0
  · obtain ⟨h1,h2,h3,h4,h5⟩:=zsS he
    have hb:((putR s a b).2 != 0)=false:=by simp [he]
    rw [hb,zaw,if_pos he,h3]
    try rw [he]
    dsimp only
    have et:(uL b).take 32=uL b:=List.take_of_length_le (by simp [h2])
    simp only [List.append_nil,List.cons_append,List.nil_append,List.length_cons,zdt,h2,List.drop_succ_cons,List.drop_zero,et,zsQ,Nat.zero_add]
    have hlen:=hs.len
    have hset:zaU T i (a.toNat*32) (uL b)=T.set i (s.setSec a.toNat b).cells:=by
      rw [zdF h,zdt,h2,zBP hlen (by omega)]
    have hlen2:=zrL (s:=s) hlen (a:=a.toNat) (by omega) h2
    have hU:=zkD h (s.setSec a.toNat b).cells
    have hp:=znC hlen2
    have hpe:(s.setSec a.toNat b).pend=s.pend:=rfl
    rw [zab (by first | trivial | omega),zab (by first | trivial | omega),zab h4,zab (by first | trivial | omega),zan h,zab (by rw [ziP hlen]; omega),zab (by first | trivial | omega),zab (by first | trivial | rfl)]
    rw [zvK hlen (by first | trivial | omega),zab (zsQ _),zpX,hset,zan hU,zan hp,zbV,zan hU,zan hp,zbV,zab (by first | trivial | omega),zc3,hpe]
    rw [zzH hs.ps (by first | trivial | omega),zag,zbV,zab (by first | trivial | rfl),zab (zni _),zuT hs.ps hc hn,zag,zei,zei,zbV,zab (by first | trivial | omega),zan hU,zab (by rw [ziP hlen2]; omega),
      zab (by first | trivial | rfl),zab (zni _),zab (ztk hs.ps),zpX]
    have h6:zaU (T.set i (s.setSec a.toNat b).cells) i 1664 [.sl .own (s.pend.map wD)]=T.set i (s.setSec a.toNat b).cells:=by
      rw [zdF hU]
      have:=znD (s:=s.setSec a.toNat b) hlen2 s.pend
      rw [show (1664:Nat)+[D.sl .own (s.pend.map wD)].length=1665 from rfl,this,List.set_set]
      rfl
    rw [h6,show s.mayW a b=0 from he]
  · have hb:((putR s a b).2 != 0)=true:=by simp [he]
    rw [hb,zaY,if_neg he]
    have:T.set i s.cells=T:=by
      apply List.ext_getElem?
      intro j
      rw [List.getElem?_set]
      split
      · rename_i e; subst e; rw [h]; simp [zaR h]
      · rfl
    rw [this]
theorem zBe (T:Tb):znL T=some (Ans.mk (.h kD T.length 0) [] [T++[List.replicate 1664 (D.int .u8 0)++[.sl .own [],.bool false]]]):=by kernel_rfl
theorem zE6 (T:Tb):zcP [] [T]=some (Ans.mk (.h kD T.length 0) [] [T++[DS.new.cells]]):=by
  rw [zsZ]
  have e:DS.new.cells=List.replicate 1664 (D.int .u8 0)++[.sl .own [],.bool false]:=by
    show uL (List.replicate 1664 0)++[.sl .own [],.bool false]=_
    rw [←zoy]
  rw [e]
  exact zBe T
theorem zv3 {R:Type} {n:Nat} {b:List Int} (h:b.length=n) (f:LfT [.arr n]→Option R):zay [.arr n] (uL b) f=f (uL b,()):=by
  subst h
  have e1:(uL b).take b.length=uL b:=List.take_of_length_le (by simp)
  have e2:(uL b).drop b.length=[]:=List.drop_of_length_le (by simp)
  simp [zay,zdj,Lf.get,e1,e2]
theorem zr0 {n:Nat} {b:List Int} (h:b.length=n):(uL b).take n=uL b:=List.take_of_length_le (by simp [h])
theorem zBf {a:Int} {b:List Int} (h:b.length=32):zdZ 33 [D.agg (D.int .i64 a::uL b)]=true:=by simp [zdZ,D.width,D.isAgg,D.cell,h]
theorem zzJ {a:Int} {b:List Int} (h:b.length=32):zfz 33 [D.agg (D.int .i64 a::uL b)]=true:=by simp [zfz,D.width,h]
theorem zxU (a:Int) (b:List Int):zc2 [D.agg (D.int .i64 a::uL b)]=true:=by
  have h:(uL b).all D.flat=true:=zCU b
  show ((D.agg (D.int .i64 a::uL b)).flatEl && true)=true
  show ((true && (uL b).all D.flat) && true)=true
  rw [h]; rfl
section
variable {T:Tb} {i:Nat} {s:DS}
theorem zBg (h:T[i]? =some s.cells) (hl:s.l.length=1664) (p:List (Int×List Int)) (l:List D) (e:l=p.map wD):zaU (setT T i 1664 .undef) i 1664 [.sl .own l]=T.set i ({ s with pend:=p }:DS).cells:=by
  subst e
  rw [zsJ h (by rw [ziP hl]; omega),znD hl]
theorem zuU (h:T[i]? =some s.cells) (hl:s.l.length=1664) (p:List (Int×List Int)):zaU T i 1664 [.sl .own (p.map wD)]=T.set i ({ s with pend:=p }:DS).cells:=by
  rw [zdF h]
  exact congrArg _ (znD hl p)
theorem ztl (h:T[i]? =some s.cells) (hs:s.Ok) (hn:s.pend.length≤1000000) (a:Int) (tg:Tag) (b:List Int):
    zbj [.h kD i 0,.int .i64 a,.sl tg (uL b)] [T]=some (Ans.mk (.int .i64 (s.write a b).1) [] [T.set i (s.write a b).2.cells]):=by
  rw [zlg,zcN]
  unfold zfp DS.write
  have hpl:=zwV s a b
  by_cases he:(putR s a b).2=0
  · obtain ⟨h1,h2,h3,h4,h5⟩:=zsS he
    simp (disch:=first | omega | assumption | (simp; done) | fail) [zC3 h hs,wD,zdn _ hpl,he,h3,zan h,zan (znC hs.len),hpl,h2,zv3 h2,zr0 h2,zBf h2,zzJ h2,zy9 h,ziP hs.len,zni,zxU,ztk hs.ps]
    exact zBg h hs.len (s.pend++[(a,b)]) _ (by simp [wD])
  · simp (disch:=first | omega | assumption | (simp; done) | fail) [zC3 h hs,wD,zdn _ hpl,he,hpl,set_same h]
theorem ztm {β:Type} {l:List β} {n:Nat} (h:l.length=n):cut 0 n l=l:=by subst h; exact zc3 l
theorem zEj (l:List Int):(uL l).map D.hide=uL l:=by
  unfold uL; rw [List.map_map]; apply List.map_congr_left; intro n _; rfl
theorem zBW (l:List Int):(uL l).map D.own0=uL l:=by
  unfold uL; rw [List.map_map]; apply List.map_congr_left; intro n _; rfl
theorem zv4 (h:T[i]? =some s.cells) (hs:s.Ok) (hn:s.pend.length≤1000000):zbx [.h kD i 0] [T]=some (Ans.mk (.h kD T.length 0) [] [T++[s.cells]]):=by
  rw [zle]
  unfold zfo
  have e1:List.map D.hide (List.take 1666 (List.drop 0 s.cells))=uL s.l++[D.undef,D.bool s.failed]:=by
    rw [List.drop_zero,List.take_of_length_le (by rw [ziP hs.len]; omega)]
    unfold DS.cells
    rw [List.map_append,zEj]; rfl
  have e2:∀ (x:List D),x.length=1666→spl 0 1666 x (uL s.l++[D.undef,D.bool s.failed])=uL s.l++[D.undef,D.bool s.failed]:=by
    intro x hx; unfold spl; rw [if_pos ⟨rfl,hx.symm⟩]
  have e3:((uL s.l++[D.undef,D.bool s.failed]).set 1664 .nilp).all D.own0ok=true:=by
    rw [List.set_append_right _ _ (by simp [hs.len]),List.all_append,zox (fun _=>rfl)]
    simp [hs.len,D.own0ok,D.flat]
  have e4:((uL s.l++[D.undef,D.bool s.failed]).map D.own0).set 1664 (.sl .own (s.pend.map wD))=s.cells:=by
    rw [List.map_append,zBW,List.set_append_right _ _ (by simp [hs.len])]
    simp [hs.len,DS.cells,D.own0]
  have e5:(uL s.l++[D.undef,D.bool s.failed]).length=1666:=by simp [hs.len]
  have e6:(List.reverse ([D.bool false,D.sl Tag.nil []]++List.replicate 1664 (D.int IntKind.u8 (0:Int)))).length=1666:=by rw [List.length_reverse,List.length_append,List.length_replicate]; rfl
  have e7:((true && decide ((1:Nat)=(1:Nat)) && List.all [(1664:Nat)] fun k=>decide (k < 1666))=true):=by decide
  rw [zan h,e1,e2 _ e6]
  generalize (uL s.l++[D.undef,D.bool s.failed])=X at*
  simp (disch:=first | omega | assumption | (simp; done) | fail) [e3,e4,e5,e7,ztm,zan h,zan (znC hs.len),ziP hs.len,zzH hs.ps,zni,ztk hs.ps]
theorem zC5 (h:T[i]? =some s.cells) (hs:s.Ok) (hn:s.pend.length≤1000000):zby [.h kD i 0] [T]=some (Ans.mk (.int .i64 s.flush.1) [] [T.set i s.flush.2.cells]):=by
  rw [zli]
  unfold zfq DS.flush
  cases hf:s.failed
  · have hlp:(s.pend.map wD).length=s.pend.length:=by simp
    simp (disch:=first | omega | assumption | (simp; done) | fail) only [zan h,zan (zmK hs.len),zan (znC hs.len),hf,zcU,zaw,zbV,zab,Nat.zero_add,Nat.le_refl,hlp]
    let st:Nat→(Nat×(Nat×Nat×Nat)×Int×Int×PUnit)×List (List D)×PUnit:=fun k=>((i,(i,0,s.pend.length),(s.pend.length:Int),(k:Int),PUnit.unit),T.set i (s.puts (s.pend.take k)).cells,PUnit.unit)
    have hst:st 0=((i,(i,0,s.pend.length),(s.pend.length:Int),0,PUnit.unit),T,PUnit.unit):=by
      show ((i,(i,0,s.pend.length),(s.pend.length:Int),0,PUnit.unit),T.set i (s.puts []).cells,PUnit.unit)=_
      rw [show s.puts []=s from rfl,set_same h]
    rw [←hst]
    refine zcF st s.pend.length (by omega) ?_ ?_
    · intro again k hk
      dsimp only [st]
      obtain ⟨w,hw⟩:∃ w,s.pend[k]? =some w:=⟨_,List.getElem?_eq_getElem hk⟩
      obtain ⟨hws,hw0,hw1⟩:=hs.pend w (List.mem_of_getElem? hw)
      obtain ⟨pk,pf,pp⟩:=zp5 hs (s.pend.take k) fun w hw=>hs.pend w (List.mem_of_mem_take hw)
      have hU:=zkD h (s.puts (s.pend.take k)).cells
      have hpd:=znC (s:=s.puts (s.pend.take k)) pk.len
      rw [pp] at hpd
      have hnx:zaU (T.set i (s.puts (s.pend.take k)).cells) i (w.1.toNat*32) (uL w.2)=T.set i (s.puts (s.pend.take (k+1))).cells:=by
        rw [zdF hU,zdt,hws.len,zBP pk.len (by omega),List.set_set,List.take_add_one,hw]
        show _=T.set i (s.puts (s.pend.take k++[w])).cells
        unfold DS.puts
        rw [List.foldl_append]; rfl
      simp (disch:=first | omega | assumption | (simp; done) | fail) [zan hU,zan hpd,zan (zzI hw),zdn _ hws.len,hws.len,zr0 hws.len,ziP pk.len,hk,zqx,zvK pk.len,hw0,hw1,zaq,hnx]
    · intro again
      dsimp only [st]
      rw [List.take_length]
      obtain ⟨pk,pf,pp⟩:=zp5 hs s.pend hs.pend
      have hU:=zkD h (s.puts s.pend).cells
      have hz:=zuU hU pk.len []
      have hz':zaU (T.set i (s.puts s.pend).cells) i 1664 [D.sl Tag.own []]=T.set i s.flushed.cells:=by
        have:=zuU hU pk.len []
        rw [List.set_set] at this; exact this
      simp (disch:=first | omega | assumption | (simp; done) | fail) [zan hU,ziP pk.len,hz']
  · simp (disch:=first | omega | assumption | (simp; done) | fail) [zan h,zan (zmK hs.len),hf,set_same h]
theorem zEk (h:T[i]? =some s.cells) (hs:s.Ok):zbC [.h kD i 0] [T]=some (Ans.mk (.tup []) [] [T.set i DS.dead.cells]):=by
  rw [zl0]
  unfold zfK
  have e:List.map D.own0 (List.set (List.reverse ([D.bool false,D.sl Tag.nil []]++List.replicate 1664 (D.int IntKind.u8 (0:Int)))) 1665 (D.bool true))=DS.dead.cells:=by
    rw [List.reverse_append,List.reverse_replicate]
    show List.map D.own0 (List.set (List.replicate 1664 (D.int IntKind.u8 (0:Int))++[D.sl Tag.nil [],D.bool false]) 1665 (D.bool true))=uL (List.replicate 1664 0)++[.sl .own [],.bool true]
    rw [List.set_append_right _ _ (by rw [List.length_replicate]; omega),List.length_replicate,List.map_append,zoy,zBW]
    rfl
  have hl:DS.dead.cells.length=1666:=ziP (s:=DS.dead) (List.length_replicate ..)
  have hset:zaU T i 0 DS.dead.cells=T.set i DS.dead.cells:=by
    rw [zdF h,hl]
    rw [List.take_zero,List.nil_append,List.drop_of_length_le (by rw [ziP hs.len]; omega),List.append_nil]
  rw [e,hset,zan h,ziP hs.len]
  simp
end
end Wf

namespace Wf
open Go Go.RowKit Go.Proofs
set_option linter.unusedSimpArgs false
set_option linter.unusedVariables false
section
variable {T0 T1:Tb} {b:Nat} {idx:List Nat} {B:Ben}
theorem At.ds (h:At T0 T1 b idx B) (hw:B.w≤1000000) (d:Int):(B.dk d).Ok∧(B.dk d).pend.length≤1000000:=by
  have:=znE h.ok d
  exact ⟨this.1,by have:=this.2; omega⟩
theorem zzK (h:At T0 T1 b idx B):zaK [.h kB b 0] [P0 T0 b idx B]=some (Ans.mk (.int .i64 B.n) [] []):=by
  rw [zla]
  unfold zfk
  simp [zan h.get0,bRow,h.len,Ben.n]
theorem b_is (h:At T0 T1 b idx B) (d:Int):zal [.h kB b 0,.int .i64 d] [P0 T0 b idx B]=some (Ans.mk (.bool (B.is d)) [] []):=by
  rw [zlW]
  unfold zfJ Ben.is Ben.n
  by_cases h0:0≤d
  · simp [zan h.get0,bRow,h0,h.len]
  · simp [h0]
theorem zBh (h:At T0 T1 b idx B) (d:Int):za8 [.h kB b 0,.int .i64 d] [P0 T0 b idx B,P1 T1 idx B]=some (Ans.mk (.bool (B.failed d)) [] []):=by
  rw [ziz]
  unfold zd7 Ben.failed
  cases hd:B.is d
  · simp [b_is h d,hd]
  · obtain ⟨h0,h1⟩:=zfQ.1 hd
    have h1':d.toNat < idx.length:=by have:=h.len; unfold Ben.n at h1; omega
    simp (disch:=first | omega | assumption | (simp; done) | fail) [b_is h d,hd,zan h.get0,bRow,h0,h1',zan (h.hd hd),D.isAgg,D.width,D.cell,zBc (h.get1 hd) (znE h.ok d).1]
theorem zuV (h:At T0 T1 b idx B) (d:Int):zau [.h kB b 0,.int .i64 d] [P0 T0 b idx B]=some (Ans.mk (.int .i64 (B.may d)) [] []):=by
  rw [zlb]
  unfold zfl Ben.may
  cases hd:B.is d
  · simp [b_is h d,hd]
  · cases hw:B.down<;>simp [b_is h d,hd,zan h.get0,bRow,hw]
theorem zBX (h:At T0 T1 b idx B) (hw:B.w≤1000000) (d a:Int):zbn [.h kB b 0,.int .i64 d,.int .i64 a] [P0 T0 b idx B,P1 T1 idx B]=some (Ans.mk (.tup [.sl .own (uL (B.read d a).1),.int .i64 (B.read d a).2]) [] []):=by
  rw [zj4]
  unfold zeU Ben.read
  by_cases hm:B.may d=0
  · obtain ⟨hd,hdn⟩:=may0.1 hm
    obtain ⟨h0,h1⟩:=zfQ.1 hd
    have h1':d.toNat < idx.length:=by have:=h.len; unfold Ben.n at h1; omega
    have hu:=zgv ((B.dk d).read a).1
    simp only [List.all_eq_true] at hu
    simp (disch:=first | omega | assumption | (simp; done) | fail) [zuV h d,hm,zan h.get0,bRow,h0,h1',zan (h.hd hd),D.isAgg,D.width,D.cell,zEi (h.get1 hd) (h.ds hw d).1 (h.ds hw d).2]
  · simp [zuV h d,hm]; rfl
theorem zC6 (h:At T0 T1 b idx B) (tg:Tag) (live:List Bool) {d:Int} (h0:0≤d):za0 [.h kB b 0,.sl tg (live.map D.bool),.int .i64 d] [P0 T0 b idx B,P1 T1 idx B]=some (Ans.mk (.bool (B.up live d)) [] []):=by
  have hl:D.lentL (live.map D.bool)=live.map D.bool:=by
    induction live with
    | nil=>rfl
    | cons x l ih=>simp [ih]
  rw [zqN,hl]
  unfold zl1 Ben.up
  by_cases h1:d < B.n
  · by_cases h2:d < live.length
    · have e:live[d.toNat]? =some (live[d.toNat]'(by omega)):=List.getElem?_eq_getElem (by omega)
      have e':(live.map D.bool)[d.toNat]? =some (.bool (live[d.toNat]'(by omega))):=by simp [e]
      cases hv:live[d.toNat]'(by omega)
      · rw [hv] at e e'
        simp [zzK h,h1,h2,h0,zan e',e,hv]
      · rw [hv] at e e'
        simp [zzK h,h1,h2,h0,zan e',e,zBh h d,hv]
    · have e:live[d.toNat]? =none:=List.getElem?_eq_none (by omega)
      simp [zzK h,h1,h2,e]
  · simp [zzK h,h1]
theorem zzL (h:At T0 T1 b idx B) (hw:B.w≤1000000):zaZ [.h kB b 0] [P0 T0 b idx B]=some (Ans.mk (.bool (decide (B.left≠0))) [] [P0 T0 b idx (if B.left=0 then B.off else B.less)]):=by
  rw [zh2]
  unfold zdM
  have hw0:=h.ok.w0
  have hlf:=h.ok.lf
  have hg:=h.get0
  have hset:∀ (B':Ben) (T:Tb) (cs:List D) (o:Nat) (x:D),T=P0 T0 b idx B'→cs=bRow B' idx→∀ B'':Ben,cs.take o++[x]++cs.drop (o+1)=bRow B'' idx→zaU T b o [x]=P0 T0 b idx B'':=by
    rintro B' _ _ o x rfl rfl B'' e
    have hg':(P0 T0 b idx B')[b]? =some (bRow B' idx):=by unfold P0; rw [List.getElem?_set,if_pos rfl,if_pos h.b]
    rw [zdF hg']
    show (P0 T0 b idx B').set b ((bRow B' idx).take o++[x]++(bRow B' idx).drop (o+1))=_
    rw [e,zEf]
  by_cases hl:B.left=0
  · have e1:=hset B _ _ 2 (.bool true) rfl rfl B.off rfl
    simp (disch:=first | omega | assumption | (simp; done) | fail) [zan hg,bRow,hl,e1,zhg,D.flat]
  · by_cases hp:0 < B.left
    · let B1:Ben:={ B with left:=B.left - 1 }
      have e1:=hset B _ _ 1 (.int .i64 (B.left - 1)) rfl rfl B1 rfl
      have hg1:(P0 T0 b idx B1)[b]? =some (bRow B1 idx):=by unfold P0; rw [List.getElem?_set,if_pos rfl,if_pos h.b]
      have e2:=hset B1 _ _ 0 (.int .i64 (B.w+1)) rfl rfl B.less (by unfold Ben.less; rw [if_pos hp]; rfl)
      have e3:bRow B1 idx=[.int .i64 B.w,.int .i64 (B.left - 1),.bool B.down,.sl .own (idx.map hD)]:=rfl
      rw [e3] at hg1
      simp (disch:=first | omega | assumption | (simp; done) | fail) [zan hg,zan hg1,bRow,hl,hp,e1,e2,zhg,D.flat,zaq]
    · have e1:=hset B _ _ 0 (.int .i64 (B.w+1)) rfl rfl B.less (by unfold Ben.less; rw [if_neg hp]; rfl)
      simp (disch:=first | omega | assumption | (simp; done) | fail) [zan hg,bRow,hl,hp,e1,zhg,D.flat,zaq]
theorem zC7 (h:At T0 T1 b idx B) (hw:B.w≤1000000) (d a:Int) (tg:Tag) (x:List Int):
    zbd [.h kB b 0,.int .i64 d,.int .i64 a,.sl tg (uL x)] [P0 T0 b idx B,P1 T1 idx B]=some (Ans.mk (.int .i64 (B.write d a x).1) [] [P0 T0 b idx (B.write d a x).2,P1 T1 idx (B.write d a x).2]):=by
  rw [zjj,zcN]
  unfold zev Ben.write
  by_cases hm:B.may d=0
  · obtain ⟨hd,hdn⟩:=may0.1 hm
    obtain ⟨h0,h1⟩:=zfQ.1 hd
    obtain ⟨ho,hp⟩:=h.ds hw d
    have h1':d.toNat < idx.length:=by have:=h.len; unfold Ben.n at h1; omega
    have hT:(P1 T1 idx B++[(B.dk d).cells])[(P1 T1 idx B).length]? =some (B.dk d).cells:=by simp
    have hj:(P1 T1 idx B++[(B.dk d).cells]).set (P1 T1 idx B).length ((B.dk d).write a x).2.cells=P1 T1 idx (B.junk ((B.dk d).write a x).2):=by
      rw [List.set_append_right _ _ (Nat.le_refl _),Nat.sub_self,←zCX]; rfl
    have hJ:At T0 T1 b idx (B.junk ((B.dk d).write a x).2):=h.nx (K:=0) ⟨zp6 h.ok _,rfl,by simp,by simp⟩
    have hd':(B.junk ((B.dk d).write a x).2).is d=true:=hd
    have hg1:=hJ.get1 hd'
    have hset:=hJ.set1 hd' ((B.dk d).write a x).2
    have hw1:=ztl (T:=P1 T1 idx (B.junk ((B.dk d).write a x).2)) (i:=ix idx d) (s:=B.dk d) hg1 ho hp a .lent x
    have hgr:∀ B':Ben,(P0 T0 b idx B')[b]? =some [.int .i64 B'.w,.int .i64 B'.left,.bool B'.down,.sl .own (idx.map hD)]:=by
      intro B'; unfold P0; rw [List.getElem?_set,if_pos rfl,if_pos h.b]; rfl
    by_cases he:(B.dk d).mayW a x=0
    · have e1:((B.dk d).write a x).1=0:=he
      have e2:((B.dk d).write a x).2=(B.dk d).add a x:=by unfold DS.write; rw [if_pos he]
      by_cases hl:B.left=0
      · simp (disch:=first | omega | assumption | (simp; done) | fail) [zuV h d,hm,zan (hgr _),h0,h1',zan (h.hd hd),D.isAgg,D.width,D.cell,zv4 (h.get1 hd) ho hp,ziN,ztl hT ho hp,hj,he,e1,zzL h hw,hl]
        exact ⟨rfl,rfl⟩
      · simp (disch:=first | omega | assumption | (simp; done) | fail) [zuV h d,hm,zan (hgr _),h0,h1',zan (h.hd hd),D.isAgg,D.width,D.cell,zv4 (h.get1 hd) ho hp,ziN,ztl hT ho hp,hj,he,e1,zzL h hw,hl,hw1,hset]
        rw [e2]; exact ⟨rfl,rfl⟩
    · have e1:¬ ((B.dk d).write a x).1=0:=he
      simp (disch:=first | omega | assumption | (simp; done) | fail) [zuV h d,hm,zan (hgr _),h0,h1',zan (h.hd hd),D.isAgg,D.width,D.cell,zv4 (h.get1 hd) ho hp,ziN,ztl hT ho hp,hj,he,e1]
      exact ⟨rfl,rfl⟩
  · simp [zuV h d,hm]
theorem zC8 (h:At T0 T1 b idx B) (hw:B.w≤1000000) (d:Int):
    zbe [.h kB b 0,.int .i64 d] [P0 T0 b idx B,P1 T1 idx B]=some (Ans.mk (.int .i64 (B.flush d).1) [] [P1 T1 idx (B.flush d).2]):=by
  rw [zjl]
  unfold zew Ben.flush
  by_cases hm:B.may d=0
  · obtain ⟨hd,hdn⟩:=may0.1 hm
    obtain ⟨h0,h1⟩:=zfQ.1 hd
    obtain ⟨ho,hp⟩:=h.ds hw d
    have h1':d.toNat < idx.length:=by have:=h.len; unfold Ben.n at h1; omega
    simp (disch:=first | omega | assumption | (simp; done) | fail) [zuV h d,hm,zan h.get0,bRow,h0,h1',zan (h.hd hd),D.isAgg,D.width,D.cell,zC5 (h.get1 hd) ho hp,h.set1 hd]
  · simp [zuV h d,hm]
theorem zEl (h:At T0 T1 b idx B) (d:Int):
    za2 [.h kB b 0,.int .i64 d] [P0 T0 b idx B,P1 T1 idx B]=some (Ans.mk (.int .i64 (B.fail d).1) [] [P1 T1 idx (B.fail d).2]):=by
  rw [zjX]
  unfold zeS Ben.fail
  cases hd:B.is d
  · simp [b_is h d,hd]
  · obtain ⟨h0,h1⟩:=zfQ.1 hd
    have h1':d.toNat < idx.length:=by have:=h.len; unfold Ben.n at h1; omega
    simp (disch:=first | omega | assumption | (simp; done) | fail) [b_is h d,hd,zan h.get0,bRow,h0,h1',zan (h.hd hd),D.isAgg,D.width,D.cell,zEk (h.get1 hd) (znE h.ok d).1,h.set1 hd]
theorem zBi (h:At T0 T1 b idx B) (hw:B.w≤1000000) (d:Int) {a:Int} (hc:∀ w∈(B.dk d).pend,w.1≠a) (tg:Tag) (x:List Int):
    za7 [.h kB b 0,.int .i64 d,.int .i64 a,.sl tg (uL x)] [P0 T0 b idx B,P1 T1 idx B]=some (Ans.mk (.int .i64 (B.damage d a x).1) [] [P1 T1 idx (B.damage d a x).2]):=by
  rw [ziv,zcN]
  unfold zd5 Ben.damage
  cases hd:B.is d
  · simp [b_is h d,hd]
  · obtain ⟨h0,h1⟩:=zfQ.1 hd
    obtain ⟨ho,hp⟩:=h.ds hw d
    have h1':d.toNat < idx.length:=by have:=h.len; unfold Ben.n at h1; omega
    simp (disch:=first | omega | assumption | (simp; done) | fail) [b_is h d,hd,zan h.get0,bRow,h0,h1',zan (h.hd hd),D.isAgg,D.width,D.cell,zBd (h.get1 hd) ho hp hc,h.set1 hd]
end
end Wf

namespace Wf
open Go Go.RowKit Go.Proofs
set_option linter.unusedSimpArgs false
set_option linter.unusedVariables false
theorem gf_double (a:Int):zaW [.int .u8 a]=some (.int .u8 (dbl a)):=by
  rw [zqS]
  unfold zl6 dbl
  by_cases h:128≤a
  · simp [h]
  · simp [h]
theorem zEm (a b:Int) (h0:0≤b) (h1:b < 256):zej [.int .u8 a,.int .u8 b]=some (.int .u8 (mul8 a b)):=by
  rw [zvU]
  unfold zs3
  refine zkE (fun x=>x.1.2.1.toNat) (fun _=>some (D.int .u8 (mul8 a b)))
    (fun x=>∃ (n:Nat) (a' b' o:Int),0≤b'∧b' < 2 ^ n∧n≤8∧mulA n a' b' o=mul8 a b∧x=((a',b',o,PUnit.unit),PUnit.unit)) ?_ ⟨8,a,b,0,h0,h1,Nat.le_refl _,rfl,rfl⟩ (by simp; omega)
  rintro again _ ⟨n,a',b',o,p0,p1,p2,p3,rfl⟩ hag
  dsimp only
  by_cases hb:b' > 0
  · have hd:decide (b' > 0)=true:=by simp [hb]
    rw [hd,zaY,zaN]
    cases n with
    | zero=>simp at p1; omega
    | succ n=>
      have hdiv:b'.fdiv 2=b' / 2:=Int.fdiv_eq_ediv_of_nonneg _ (by omega)
      have hlt:b' / 2 < 2 ^ n:=by
        have:(2:Int) ^ (n+1)=2 ^ n*2:=Int.pow_succ ..
        omega
      by_cases hone:bits .and .u8 b' 1=1
      · have hbo:(bits .and .u8 b' 1 == 1)=true:=by simp [hone]
        rw [hbo,zaY,zaN,gf_double,zag,zbE,zaN,hdiv]
        refine hag _ ⟨n,_,_,_,by omega,hlt,by omega,?_,rfl⟩ (by simp; omega)
        rw [←p3]
        show _=mulA n (dbl a') (b' / 2) (if bits .and .u8 b' 1=1 then xor8 o a' else o)
        rw [if_pos hone]
      · have hbo:(bits .and .u8 b' 1 == 1)=false:=by simp [hone]
        rw [hbo,zaw,gf_double,zag,zbE,zaN,hdiv]
        refine hag _ ⟨n,_,_,_,by omega,hlt,by omega,?_,rfl⟩ (by simp; omega)
        rw [←p3]
        show _=mulA n (dbl a') (b' / 2) (if bits .and .u8 b' 1=1 then xor8 o a' else o)
        rw [if_neg hone]
  · have hd:decide (b' > 0)=false:=by simp [hb]
    have:b'=0:=by omega
    subst this
    rw [hd,zaw,←p3,zzb]
theorem zBj {a b:List Int} {k:Nat} {x y:Int} (h1:a[k]? =some x) (h2:b[k]? =some y):(List.zipWith xor8 a b).take (k+1)=(List.zipWith xor8 a b).take k++[xor8 x y]:=by
  rw [List.take_add_one]
  congr 1
  simp [List.getElem?_zipWith,h1,h2]
theorem zhd (t t':Tag) (a b:List Int) (ha:a.length < 100000):zaH [.sl t (uL a),.sl t' (uL b)]=some (.sl .own (uL (addL a b))):=by
  rw [zs4,zcN,zcN]
  unfold znX addL
  by_cases hl:a.length=b.length
  · have hb:(((uL a).length:Int) != ((uL b).length:Int))=false:=by simp [hl]
    rw [hb,zaw,if_pos hl]
    let st:Nat→(List D×List D×List D×Int×Int×PUnit)×PUnit:=fun k=>((uL b,uL ((List.zipWith xor8 a b).take k),uL a,(a.length:Int),(k:Int),PUnit.unit),PUnit.unit)
    have hst:st 0=((uL b,[],uL a,((uL a).length:Int),0,PUnit.unit),PUnit.unit):=by simp [st,uL]
    rw [←hst]
    refine zb0 st a.length ha ?_ ?_
    · intro again k hk
      dsimp only [st]
      have h1:a[k]? =some a[k]:=List.getElem?_eq_getElem hk
      have h2:b[k]? =some (b[k]'(by omega)):=List.getElem?_eq_getElem (by omega)
      have hd:decide ((k:Int) < (a.length:Int))=true:=by simp; omega
      rw [hd,zaY,zab (by omega),zan (by simpa using ziO h1),zbE,zab (by omega),zan (by simpa using ziO h2),zbE,zaN,zab (by simp; omega),zab (by rfl),zaN,zaq (by omega) (by omega),zab (by simp)]
      rw [zBj h1 h2,←zzm]
      rfl
    · intro again
      dsimp only [st]
      have hd:decide ((a.length:Int) < (a.length:Int))=false:=by simp
      have ht:(List.zipWith xor8 a b).take a.length=List.zipWith xor8 a b:=List.take_of_length_le (by simp; omega)
      rw [hd,zaw,zab (by rfl),zab (zgv _),ht]
  · have hb:(((uL a).length:Int) != ((uL b).length:Int))=true:=by simp; omega
    rw [hb,zaY,if_neg hl]
    rfl
theorem zh4 (t:Tag) (a:List Int) (ha:a.length < 100000) {f:Int} (h0:0≤f) (h1:f < 256):zaF [.sl t (uL a),.int .u8 f]=some (.sl .own (uL (a.map (mul8 · f)))):=by
  rw [zqp,zcN]
  unfold zka
  let st:Nat→(Int×List D×List D×Int×Int×PUnit)×PUnit:=fun k=>((f,uL ((a.map (mul8 · f)).take k),uL a,(a.length:Int),(k:Int),PUnit.unit),PUnit.unit)
  have hst:st 0=((f,[],uL a,((uL a).length:Int),0,PUnit.unit),PUnit.unit):=by simp [st,uL]
  rw [←hst]
  refine zb0 st a.length ha ?_ ?_
  · intro again k hk
    dsimp only [st]
    have h2:a[k]? =some a[k]:=List.getElem?_eq_getElem hk
    have hd:decide ((k:Int) < (a.length:Int))=true:=by simp; omega
    rw [hd,zaY,zab (by omega),zan (by simpa using ziO h2),zbE,zEm _ _ h0 h1,zag,zbE,zab (by simp; omega),zab (by rfl),zaN,zaq (by omega) (by omega),zab (by simp)]
    have:(a.map (mul8 · f)).take (k+1)=(a.map (mul8 · f)).take k++[mul8 a[k] f]:=by rw [List.take_add_one]; simp [h2]
    rw [this,←zzm]
    rfl
  · intro again
    dsimp only [st]
    have hd:decide ((a.length:Int) < (a.length:Int))=false:=by simp
    have ht:(a.map (mul8 · f)).take a.length=a.map (mul8 · f):=List.take_of_length_le (by simp)
    rw [hd,zaw,zab (by rfl),zab (zgv _),ht]
abbrev Part:=Tag×List Int
def pL (ps:List Part):List D:=ps.map fun x=>.sl x.1 (uL x.2)
def zbJ (t:Tag) (l:List Int):Tag:=match t,l with
  | .nil,_=>.nil
  | .nn,[]=>.nn
  | .nul,[]=>.nul
  | _,_=>.lent
theorem zC9 (t:Tag) (l:List Int):D.lent (.sl t (uL l))=.sl (zbJ t l) (uL l):=by
  have h:=zcN l
  cases l with
  | nil=>cases t<;>rfl
  | cons n l=>
    have e:uL (n::l)=.int .u8 n::uL l:=rfl
    rw [e] at h ⊢
    cases t<;>simp only [D.lent,h,zbJ]<;>simp [D.lentL,D.lent,zcN]
theorem zcA (ps:List Part):D.lentL (pL ps)=pL (ps.map fun x=>(zbJ x.1 x.2,x.2)):=by
  unfold pL
  rw [zpC,List.map_map,List.map_map]
  apply List.map_congr_left
  intro x _
  exact zC9 x.1 x.2
@[simp] theorem zr1 (ps:List Part):(pL ps).length=ps.length:=by simp [pL]
theorem zct {ps:List Part} {k:Nat} {x:Part} (h:ps[k]? =some x):(pL ps)[k]? =some (.sl x.1 (uL x.2)):=by simp [pL,h]
theorem zzM (ps:List Part) (t:Tag) (l:List Int):pL ps++[.sl t (uL l)]=pL (ps++[(t,l)]):=by simp [pL]
theorem zoF (ps:List Part) (i:Nat) (t:Tag) (l:List Int):(pL ps).set i (.sl t (uL l))=pL (ps.set i (t,l)):=by simp [pL,List.map_set]
def Part.free (x:Part):Bool:=x.1=.fresh || x.1=.full || x.1=.nil
theorem zkn {ps:List Part} (h:∀ x∈ps,x.free=true):(pL ps).all D.free=true:=by
  unfold pL
  rw [List.all_map,List.all_eq_true]
  intro x hx
  have:=h x hx
  obtain ⟨t,l⟩:=x
  cases t<;>first | (exact zsR l) | (exact absurd this (by simp [Part.free]))
theorem zuW (k:Nat) (hk:k < 255):zaP [.int .i64 k]=some (.int .u8 (pow8 k)):=by
  rw [zqq]
  unfold zo9
  have e1:Int.tmod (k:Int) 255=k:=by rw [Int.tmod_eq_emod_of_nonneg (by omega),Int.emod_eq_of_lt (by omega) (by omega)]
  have e2:Int.tmod ((k:Int)+255) 255=k:=by
    rw [Int.tmod_eq_emod_of_nonneg (by omega),Int.add_emod_right,Int.emod_eq_of_lt (by omega) (by omega)]
  rw [zaN,e1,zaN,zaq (by omega) (by omega),zaN,e2]
  refine zb0 (fun j=>((pow8 j,(k:Int),(j:Int),PUnit.unit),PUnit.unit)) k (by omega) ?_ ?_
  · intro again j hj
    dsimp only
    have hd:decide ((j:Int) < (k:Int))=true:=by simp; omega
    rw [hd,zaY,gf_double,zag,zbE,zaN,zaq (by omega) (by omega)]
    rfl
  · intro again
    have hd:decide ((k:Int) < (k:Int))=false:=by simp
    dsimp only
    rw [hd,zaw]
theorem zzN (tg:Tag) {ps:List Part} {n:Nat} (hn:n < 100000) (h0:0 < ps.length) (h1:ps.length < 255) (h:∀ x∈ps,x.2.length=n):
    zbQ [.sl tg (pL ps)]=some (.sl .own (uL (sumP n (ps.map (·.2))))):=by
  rw [zvV,zcA]
  unfold zs8
  have hsum:∀ {qs:List Part},0 < qs.length→qs.length < 255→(∀ x∈qs,x.2.length=n)→∀ tg,zbF [.sl tg (pL qs),.fn ID.synd_P_1 [] []]=some (.sl .own (uL (sumP n (qs.map (·.2))))):=by
    intro qs h0 h1 h tg
    rw [zoR,zcA]
    have hl':∀ x∈(qs.map fun x=>(zbJ x.1 x.2,x.2)),x.2.length=n:=by
      intro x hx; obtain ⟨y,hy,rfl⟩:=List.mem_map.1 hx; exact h y hy
    have hm:(qs.map fun x=>(zbJ x.1 x.2,x.2)).map (·.2)=qs.map (·.2):=by rw [List.map_map]; rfl
    rw [←hm]
    have hlen:(qs.map fun x=>(zbJ x.1 x.2,x.2)).length=qs.length:=by simp
    rw [←hlen] at h0 h1
    generalize (qs.map fun x=>(zbJ x.1 x.2,x.2))=rs at*
    clear hm hlen h qs
    unfold ziB
    have hb:(((pL rs).length:Int) == 0)=false:=by simp; intro e; rw [e] at h0; simp at h0
    obtain ⟨x0,hx0⟩:∃ x,rs[0]? =some x:=⟨_,List.getElem?_eq_getElem h0⟩
    have hx0l:=hl' x0 (List.mem_of_getElem? hx0)
    rw [hb,zaw,zan (zct hx0),zeK,zab (by rfl),zdt,hx0l,zab (by omega),zab (by omega),zab (by simp),Int.toNat_natCast,zoy]
    have hls:∀ l∈rs.map (·.2),l.length=n:=by intro l hl; obtain ⟨y,hy,rfl⟩:=List.mem_map.1 hl; exact hl' y hy
    let st:Nat→(List D×List D×Int×Int×PUnit)×PUnit:=fun k=>((uL (sumK (fun _=>1) n (rs.map (·.2)) k),pL rs,((pL rs).length:Int),(k:Int),PUnit.unit),PUnit.unit)
    have hst:st 0=((uL (List.replicate n 0),pL rs,((pL rs).length:Int),0,PUnit.unit),PUnit.unit):=rfl
    rw [←hst]
    refine zb0 st rs.length (by omega) ?_ ?_
    · intro again k hk
      dsimp only [st]
      obtain ⟨x,hx⟩:∃ x,rs[k]? =some x:=⟨_,List.getElem?_eq_getElem hk⟩
      have hxl:=hl' x (List.mem_of_getElem? hx)
      have hd:decide ((k:Int) < ((pL rs).length:Int))=true:=by simp; omega
      have hsl:=zkG (f:=fun _=>1) hls (k:=k) (by simp; omega)
      rw [hd,zaY,zab (by omega),zan (by simpa using zct hx),zeK,zab (by omega)]
      have hb2:(((uL x.2).length:Int) != ((uL (sumK (fun _=>1) n (rs.map (·.2)) k)).length:Int))=false:=by simp [hxl,hsl]
      have hone:zbw [.int .i64 (k:Int)]=some (.int .u8 1):=by rw [zs5]; rfl
      rw [hb2,zaw,hone,zag,zbE,zh4 _ _ (by omega) (by omega) (by omega),zag,zbV,zab (by omega),zab (by omega),zc3,zc3,zhd _ _ _ _ (by omega),zag,zbV,zaN,
        zaq (by omega) (by omega),zab (by rfl)]
      have he:addL (sumK (fun _=>1) n (rs.map (·.2)) k) (x.2.map (mul8 · 1))=sumK (fun _=>1) n (rs.map (·.2)) (k+1):=by
        unfold addL
        rw [if_pos (by simp [hsl,hxl])]
        have:(rs.map (·.2)).getD k []=x.2:=by simp [List.getD_eq_getElem?_getD,hx]
        simp only [sumK,this]
      rw [he]
      rfl
    · intro again
      dsimp only [st]
      have hd:decide ((rs.length:Int) < ((pL rs).length:Int))=false:=by simp
      rw [hd,zaw,zab (by rfl),zab (zgv _)]
      simp [sumP]
  rw [hsum (by simpa using h0) (by simpa using h1) (by intro x hx; obtain ⟨y,hy,rfl⟩:=List.mem_map.1 hx; exact h y hy),zag,zbV,zab (by rfl),zab (zgv _),List.map_map]
  rfl
theorem zzO (tg:Tag) {ps:List Part} {n:Nat} (hn:n < 100000) (h0:0 < ps.length) (h1:ps.length < 255) (h:∀ x∈ps,x.2.length=n):
    zbR [.sl tg (pL ps)]=some (.sl .own (uL (sumQ n (ps.map (·.2))))):=by
  rw [zvW,zcA]
  unfold zs9
  have hsum:∀ {qs:List Part},0 < qs.length→qs.length < 255→(∀ x∈qs,x.2.length=n)→∀ tg,zbF [.sl tg (pL qs),.fn ID.gf_Pow [] []]=some (.sl .own (uL (sumQ n (qs.map (·.2))))):=by
    intro qs h0 h1 h tg
    rw [zoS,zcA]
    have hl':∀ x∈(qs.map fun x=>(zbJ x.1 x.2,x.2)),x.2.length=n:=by
      intro x hx; obtain ⟨y,hy,rfl⟩:=List.mem_map.1 hx; exact h y hy
    have hm:(qs.map fun x=>(zbJ x.1 x.2,x.2)).map (·.2)=qs.map (·.2):=by rw [List.map_map]; rfl
    rw [←hm]
    have hlen:(qs.map fun x=>(zbJ x.1 x.2,x.2)).length=qs.length:=by simp
    rw [←hlen] at h0 h1
    generalize (qs.map fun x=>(zbJ x.1 x.2,x.2))=rs at*
    clear hm hlen h qs
    unfold ziC
    have hb:(((pL rs).length:Int) == 0)=false:=by simp; intro e; rw [e] at h0; simp at h0
    obtain ⟨x0,hx0⟩:∃ x,rs[0]? =some x:=⟨_,List.getElem?_eq_getElem h0⟩
    have hx0l:=hl' x0 (List.mem_of_getElem? hx0)
    rw [hb,zaw,zan (zct hx0),zeK,zab (by rfl),zdt,hx0l,zab (by omega),zab (by omega),zab (by simp),Int.toNat_natCast,zoy]
    have hls:∀ l∈rs.map (·.2),l.length=n:=by intro l hl; obtain ⟨y,hy,rfl⟩:=List.mem_map.1 hl; exact hl' y hy
    let st:Nat→(List D×List D×Int×Int×PUnit)×PUnit:=fun k=>((uL (sumK pow8 n (rs.map (·.2)) k),pL rs,((pL rs).length:Int),(k:Int),PUnit.unit),PUnit.unit)
    have hst:st 0=((uL (List.replicate n 0),pL rs,((pL rs).length:Int),0,PUnit.unit),PUnit.unit):=rfl
    rw [←hst]
    refine zb0 st rs.length (by omega) ?_ ?_
    · intro again k hk
      dsimp only [st]
      obtain ⟨x,hx⟩:∃ x,rs[k]? =some x:=⟨_,List.getElem?_eq_getElem hk⟩
      have hxl:=hl' x (List.mem_of_getElem? hx)
      have hd:decide ((k:Int) < ((pL rs).length:Int))=true:=by simp; omega
      have hsl:=zkG (f:=pow8) hls (k:=k) (by simp; omega)
      rw [hd,zaY,zab (by omega),zan (by simpa using zct hx),zeK,zab (by omega)]
      have hb2:(((uL x.2).length:Int) != ((uL (sumK pow8 n (rs.map (·.2)) k)).length:Int))=false:=by simp [hxl,hsl]
      have hone:=zuW k (by omega)
      rw [hb2,zaw,hone,zag,zbE,zh4 _ _ (by omega) (zhK k).1 (zhK k).2,zag,zbV,zab (by omega),zab (by omega),zc3,zc3,zhd _ _ _ _ (by omega),zag,zbV,zaN,
        zaq (by omega) (by omega),zab (by rfl)]
      have he:addL (sumK pow8 n (rs.map (·.2)) k) (x.2.map (mul8 · (pow8 k)))=sumK pow8 n (rs.map (·.2)) (k+1):=by
        unfold addL
        rw [if_pos (by simp [hsl,hxl])]
        have:(rs.map (·.2)).getD k []=x.2:=by simp [List.getD_eq_getElem?_getD,hx]
        simp only [sumK,this]
      rw [he]
      rfl
    · intro again
      dsimp only [st]
      have hd:decide ((rs.length:Int) < ((pL rs).length:Int))=false:=by simp
      rw [hd,zaw,zab (by rfl),zab (zgv _)]
      simp [sumQ]
  rw [hsum (by simpa using h0) (by simpa using h1) (by intro x hx; obtain ⟨y,hy,rfl⟩:=List.mem_map.1 hx; exact h y hy),zag,zbV,zab (by rfl),zab (zgv _),List.map_map]
  rfl
end Wf

namespace Wf
open Go Go.RowKit Go.Proofs
set_option linter.unusedSimpArgs false
set_option linter.unusedVariables false
theorem zzP (l:List Int):(intL l).all D.free=true:=by simp [intL,D.free]
theorem zzQ (l:List Int) (n:Int):intL l++[.int .i64 n]=intL (l++[n]):=by simp [intL]
def zv5 (ls:List (List Int)) (k:Nat):List Int:=((List.range k).filter fun i=>(ls.getD i []).isEmpty).map Int.ofNat
def miss (ls:List (List Int)):List Int:=zv5 ls ls.length
theorem zxV (ls:List (List Int)) (k:Nat):zv5 ls (k+1)=zv5 ls k++if (ls.getD k []).isEmpty then [(k:Int)] else []:=by
  unfold zv5
  rw [List.range_succ,List.filter_append,List.map_append]
  congr 1
  by_cases h:(ls.getD k []).isEmpty=true
  · rw [if_pos h,List.filter_cons_of_pos (p:=fun i=>(ls.getD i []).isEmpty) h]; rfl
  · rw [if_neg h,List.filter_cons_of_neg (p:=fun i=>(ls.getD i []).isEmpty) h]; rfl
theorem zzR (ls:List (List Int)) (k:Nat):(zv5 ls k).length≤k:=by
  unfold zv5
  rw [List.length_map]
  exact Nat.le_trans (List.length_filter_le _ _) (by simp)
theorem znj (tg:Tag) (ps:List Part) (hn:ps.length < 100000):zbA [.sl tg (pL ps)]=some (.sl .own (intL (miss (ps.map (·.2))))):=by
  rw [zm4,zcA]
  have hm:(ps.map fun x=>(zbJ x.1 x.2,x.2)).map (·.2)=ps.map (·.2):=by rw [List.map_map]; rfl
  have hlen:(ps.map fun x=>(zbJ x.1 x.2,x.2)).length=ps.length:=by simp
  rw [←hm]
  rw [←hlen] at hn
  generalize (ps.map fun x=>(zbJ x.1 x.2,x.2))=rs at*
  unfold zgK
  let st:Nat→(List D×List D×Int×Int×PUnit)×PUnit:=fun k=>((intL (zv5 (rs.map (·.2)) k),pL rs,((pL rs).length:Int),(k:Int),PUnit.unit),PUnit.unit)
  have hst:st 0=(([],pL rs,((pL rs).length:Int),0,PUnit.unit),PUnit.unit):=rfl
  rw [←hst]
  refine zb0 st rs.length (by omega) ?_ ?_
  · intro again k hk
    dsimp only [st]
    obtain ⟨x,hx⟩:∃ x,rs[k]? =some x:=⟨_,List.getElem?_eq_getElem hk⟩
    have hd:decide ((k:Int) < ((pL rs).length:Int))=true:=by simp; omega
    have hk2:=zzR (rs.map (·.2)) k
    have hgd:(rs.map (·.2)).getD k []=x.2:=by simp [List.getD_eq_getElem?_getD,hx]
    rw [hd,zaY,zab (by omega),zan (by simpa using zct hx),zeK,zxV,hgd]
    by_cases he:x.2=[]
    · have hb:(((uL x.2).length:Int) == 0)=true:=by simp [he]
      rw [hb,zaY,zab (by rw [zft]; omega),zab (by rfl),zaN,zaq (by omega) (by omega),zab (by simp),zzQ,he]
      rfl
    · have hb:(((uL x.2).length:Int) == 0)=false:=by simp; omega
      have hb2:x.2.isEmpty=false:=by simp [he]
      rw [hb,zaw,zaN,zaq (by omega) (by omega),zab (by rfl),hb2]
      simp
  · intro again
    dsimp only [st]
    have hd:decide ((rs.length:Int) < ((pL rs).length:Int))=false:=by simp
    rw [hd,zaw,zab (by rfl),zab (zzP _)]
    simp [miss]
theorem zE7 (t:Tag) (l:List Int) (n:Int):zaC [.sl t (uL l),.at_ (.int .i64 n)]=some (.bool (!fitS n l)):=by
  rw [znU,zcN]
  unfold zhn fitS
  cases l with
  | nil=>simp
  | cons a l=>
    have hd:decide (((uL (a::l)).length:Int) > 0)=true:=by simp
    rw [hd,zaY]
    simp [bne]
    rfl
theorem zq4 (tg:Tag) (ps:List Part) (hn:ps.length < 100000) (n:Int):
    ∃ r,zah [.sl tg (pL ps),.fn ID.erase_fits_1 [] [.at_ (.int .i64 n)]]=some r∧∃ i:Int,r=.int .i64 i∧decide (i≥0)= !(ps.all fun x=>fitS n x.2):=by
  rw [zd9,zcA]
  have hm:(ps.all fun x=>fitS n x.2)=((ps.map fun x=>(zbJ x.1 x.2,x.2)).all fun x=>fitS n x.2):=by rw [List.all_map]; rfl
  have hlen:(ps.map fun x=>(zbJ x.1 x.2,x.2)).length=ps.length:=by simp
  rw [hm]
  rw [←hlen] at hn
  generalize (ps.map fun x=>(zbJ x.1 x.2,x.2))=rs at*
  unfold zb6
  refine zwN (fun a=>(rs.length:Nat) - a.1.2.2.2.1.toNat) (fun r=>∃ i:Int,r=D.int .i64 i∧decide (i≥0)= !(rs.all fun x=>fitS n x.2))
    (fun a=>∃ k:Nat,k≤rs.length∧((rs.take k).all fun x=>fitS n x.2)=true∧a=((pL rs,n,(rs.length:Int),(k:Int),PUnit.unit),PUnit.unit)) ?_ ⟨0,by omega,by simp,by rw [zr1]; rfl⟩ (by simp; omega)
  rintro again _ ⟨k,hk,he,rfl⟩ hag
  dsimp only
  by_cases hkm:k < rs.length
  · obtain ⟨x,hx⟩:∃ x,rs[k]? =some x:=⟨_,List.getElem?_eq_getElem hkm⟩
    have hd:decide ((k:Int) < (rs.length:Int))=true:=by simp; omega
    rw [hd,zaY,zab (by omega),zan (by simpa using zct hx),zeK,zE7,zag,zcU]
    cases hf:fitS n x.2
    · refine ⟨_,rfl,_,rfl,?_⟩
      have:(rs.all fun x=>fitS n x.2)=false:=by
        rw [List.all_eq_false]
        exact ⟨x,List.mem_of_getElem? hx,by simp [hf]⟩
      rw [this]
      simp
    · simp only [Bool.not_true,zaw,zaN]
      rw [zaq (by omega) (by omega)]
      refine hag _ ⟨k+1,by omega,?_,rfl⟩ (by simp; omega)
      rw [List.take_add_one,hx,List.all_append,he]
      simp [hf]
  · have hd:decide ((k:Int) < (rs.length:Int))=false:=by simp; omega
    rw [hd,zaw]
    refine ⟨_,rfl,_,rfl,?_⟩
    rw [List.take_of_length_le (by omega)] at he
    rw [he]
    rfl
theorem erase_fits (tg:Tag) (ps:List Part) (hn:ps.length < 100000) (n:Int):zbZ [.int .i64 n,.sl tg (pL ps)]=some (.bool (ps.all fun x=>fitS n x.2)):=by
  rw [zqn,zcA]
  have hm:(ps.all fun x=>fitS n x.2)=((ps.map fun x=>(zbJ x.1 x.2,x.2)).all fun x=>fitS n x.2):=by rw [List.all_map]; rfl
  have hlen:(ps.map fun x=>(zbJ x.1 x.2,x.2)).length=ps.length:=by simp
  rw [hm]
  rw [←hlen] at hn
  generalize (ps.map fun x=>(zbJ x.1 x.2,x.2))=rs at*
  unfold zj9
  have:zae [.sl .lent (pL rs),.fn ID.erase_fits_1 [] [.at_ (.int .i64 n)]]=some (.bool (!(rs.all fun x=>fitS n x.2))):=by
    rw [zdy,zcA]
    have hm:(rs.all fun x=>fitS n x.2)=((rs.map fun x=>(zbJ x.1 x.2,x.2)).all fun x=>fitS n x.2):=by rw [List.all_map]; rfl
    have hlen:(rs.map fun x=>(zbJ x.1 x.2,x.2)).length=rs.length:=by simp
    rw [hm]
    rw [←hlen] at hn
    generalize (rs.map fun x=>(zbJ x.1 x.2,x.2))=qs at*
    unfold zbX
    obtain ⟨r,h1,i,rfl,h2⟩:=zq4 .lent qs hn n
    rw [h1,zag,zbE,h2]
  rw [this,zag,zcU,Bool.not_not]
theorem zDa {l:List D} {n:Nat} (h:l.length=n):cut 0 n l=l:=by subst h; exact zc3 l
theorem erase_filled (n:Nat) (hn0:n < 100000) (tg:Tag) (ps:List Part) (hn:ps.length < 100000):zbK [.int .i64 n,.sl tg (pL ps)]=some (.sl .own (pL (ps.map fun x=>(Tag.fresh,zjG n x.2)))):=by
  rw [znW,zcA]
  have hm:(ps.map fun x=>(Tag.fresh,zjG n x.2))=((ps.map fun x=>(zbJ x.1 x.2,x.2)).map fun x=>(Tag.fresh,zjG n x.2)):=by rw [List.map_map]; rfl
  have hlen:(ps.map fun x=>(zbJ x.1 x.2,x.2)).length=ps.length:=by simp
  rw [hm]
  rw [←hlen] at hn
  generalize (ps.map fun x=>(zbJ x.1 x.2,x.2))=rs at*
  unfold zho
  let st:Nat→(Int×List D×List D×Int×Int×PUnit)×PUnit:=fun k=>(((n:Int),pL ((rs.take k).map fun x=>(Tag.fresh,zjG n x.2)),pL rs,((pL rs).length:Int),(k:Int),PUnit.unit),PUnit.unit)
  have hst:st 0=(((n:Int),[],pL rs,((pL rs).length:Int),0,PUnit.unit),PUnit.unit):=rfl
  rw [←hst]
  refine zb0 st rs.length (by omega) ?_ ?_
  · intro again k hk
    dsimp only [st]
    obtain ⟨x,hx⟩:∃ x,rs[k]? =some x:=⟨_,List.getElem?_eq_getElem hk⟩
    have hd:decide ((k:Int) < ((pL rs).length:Int))=true:=by simp; omega
    have hfill:([]++List.take (Int.toNat (n:Int)) (uL x.2)++List.drop ((0:Nat)+List.length (List.take (Int.toNat (n:Int)) (uL x.2))) (List.replicate (Int.toNat (n:Int)) (D.int IntKind.u8 (0:Int))))=uL (zjG n x.2):=by
      rw [Int.toNat_natCast,zvI,zoy,zvJ,Nat.zero_add,zdt,List.nil_append,←zzl]; rfl
    rw [hd,zaY,zab (by omega),zan (by simpa using zct hx),zeK,zab (by omega),zab (by rfl),zab (by omega),zab (by omega),zab (by simp),zab (zwT _),hfill,zab (by simp [zhL]),zab (by simp; omega),zab (by rfl),
      zaN,zaq (by omega) (by omega),zab (by simp),zDa (by simp [zhL]),zzM]
    have:(rs.take (k+1)).map (fun x=>(Tag.fresh,zjG n x.2))=(rs.take k).map (fun x=>(Tag.fresh,zjG n x.2))++[(Tag.fresh,zjG n x.2)]:=by rw [List.take_add_one,hx]; simp
    rw [this]
    rfl
  · intro again
    dsimp only [st]
    have hd:decide ((rs.length:Int) < ((pL rs).length:Int))=false:=by simp
    rw [hd,zaw,zab (by rfl),List.take_length,zab (zkn (by intro x hx; obtain ⟨y,hy,rfl⟩:=List.mem_map.1 hx; rfl))]
def fP (ls:List (List Int)):List Part:=ls.map fun l=>(Tag.fresh,l)
@[simp] theorem zzS (ls:List (List Int)):(fP ls).length=ls.length:=by simp [fP]
theorem zuX (ls:List (List Int)):(fP ls).map (·.2)=ls:=by
  unfold fP
  rw [List.map_map]
  exact List.map_id ls
theorem zfr (ls:List (List Int)):(pL (fP ls)).all D.free=true:=zkn (by intro x hx; obtain ⟨y,_,rfl⟩:=List.mem_map.1 hx; rfl)
theorem zEn (ls:List (List Int)) (i:Nat) (l:List Int):(fP ls).set i (Tag.fresh,l)=fP (ls.set i l):=by simp [fP,List.map_set]
theorem zw2 {ls:List (List Int)} {k:Nat} {l:List Int} (h:ls[k]? =some l):(fP ls)[k]? =some (Tag.fresh,l):=by simp [fP,h]
theorem zBk (ps:List Part):(ps.map fun x=>(Tag.fresh,zjG 32 x.2))=fP (zcl (ps.map (·.2))):=by simp [fP,zcl]
theorem zBl (ls:List (List Int)):miss ls=(zcY ls).map Int.ofNat:=rfl
theorem zxW (k:Nat) (hk:k < 100000):zaP [.int .i64 k]=some (.int .u8 (pow8 (k % 255))):=by
  have h:=zuW (k % 255) (Nat.mod_lt _ (by omega))
  rw [zqq] at h ⊢
  unfold zo9 at h ⊢
  have e1:Int.tmod (k:Int) 255=((k % 255:Nat):Int):=by rw [Int.tmod_eq_emod_of_nonneg (by omega)]; omega
  have e2:Int.tmod ((k % 255:Nat):Int) 255=((k % 255:Nat):Int):=by rw [Int.tmod_eq_emod_of_nonneg (by omega)]; omega
  rw [e1]
  rw [e2] at h
  exact h
theorem zEo {a:Nat} (ha:a < 256):zek [.int .u8 a]=some (.int .i64 (if logN a=255 then -1 else (logN a:Int))):=by
  rw [zvY]
  unfold zta
  refine zkE (a:=(((a:Int),(1:Int),(0:Int),PUnit.unit),PUnit.unit)) (fun x=>(255 - x.1.2.2.1).toNat) (fun x=>some (D.int .i64 (if logF a (255 - x.1.2.2.1.toNat) x.1.2.1.toNat x.1.2.2.1.toNat=255 then -1 else (logF a (255 - x.1.2.2.1.toNat) x.1.2.1.toNat x.1.2.2.1.toNat:Int))))
    (fun x=>∃ n y:Nat,n≤255∧y < 256∧x=(((a:Int),(y:Int),(n:Int),PUnit.unit),PUnit.unit)) ?_ ⟨0,1,by omega,by omega,rfl⟩ (by simp)
  rintro again _ ⟨n,y,hn,hy,rfl⟩ hag
  dsimp only
  rw [Int.toNat_natCast,Int.toNat_natCast]
  by_cases h:n < 255
  · have e:255 - n=(255 - (n+1))+1:=by omega
    have hd:decide ((n:Int) < 255)=true:=by simp; omega
    rw [hd,zaY,e]
    by_cases hya:y=a
    · subst hya
      have:logF y (255 - (n+1)+1) y n=n:=by unfold logF; rw [if_pos rfl]
      rw [this,if_neg (by omega)]
      simp
    · have hb:((y:Int) == (a:Int))=false:=by simp; omega
      have:logF a (255 - (n+1)+1) y n=logF a (255 - (n+1)) (dblN y) (n+1):=by rw [logF,if_neg hya]
      have hh:=hag (((a:Int),((dblN y:Nat):Int),((n+1:Nat):Int),PUnit.unit),PUnit.unit) ⟨n+1,dblN y,by omega,zjD hy,rfl⟩ (by dsimp only; omega)
      dsimp only at hh
      rw [Int.toNat_natCast,Int.toNat_natCast] at hh
      rw [hb,zaw,gf_double,zag,zbE,zaN,zaq (by omega) (by omega),zvz hy,this]
      exact hh
  · have:n=255:=by omega
    subst this
    simp [logF]
theorem zBY {a:Int} (ha:Byt a):zcs [.int .u8 a]=some (.int .u8 (inv8 a)):=by
  obtain ⟨m,hm,rfl⟩:=zen ha
  rw [zvZ]
  unfold ztb inv8 invN
  rw [Int.toNat_natCast]
  by_cases h0:m=0
  · subst h0; simp
  · obtain ⟨h1,h2⟩:=zCR m hm h0
    have hb:((m:Int) == 0)=false:=by simp; omega
    rw [hb,zaw,zEo hm,zag,zbE,if_neg (by omega),if_neg h0,zaN,zaq (by omega) (by omega),show (255:Int) - (logN m:Int)=((255 - logN m:Nat):Int) by omega,zxW _ (by omega),zag,zbE,zkF]
section
variable {ps:List Part} (h1:0 < ps.length) (h8:ps.length≤8) (hs:∀ x∈ps,x.2.length=32)
include h1 h8 hs
theorem by_q (tq tg:Tag) {q:List Int} (hq:q.length=32) {k:Nat} (hk:k < 8):
    zch [.sl tq (uL q),.sl tg (pL ps),.int .i64 k]=some (.sl .own (uL (byQ q (ps.map (·.2)) k))):=by
  rw [zqZ,zcN,zcA]
  have hm:(ps.map fun x=>(zbJ x.1 x.2,x.2)).map (·.2)=ps.map (·.2):=by rw [List.map_map]; rfl
  have hlen:(ps.map fun x=>(zbJ x.1 x.2,x.2)).length=ps.length:=by simp
  have hs':∀ x∈(ps.map fun x=>(zbJ x.1 x.2,x.2)),x.2.length=32:=by intro x hx; obtain ⟨y,hy,rfl⟩:=List.mem_map.1 hx; exact hs y hy
  rw [←hm]
  rw [←hlen] at h1 h8
  generalize (ps.map fun x=>(zbJ x.1 x.2,x.2))=rs at*
  unfold zma
  have hQ:=zzO (n:=32) .lent (ps:=rs) (by omega) h1 (by omega) hs'
  have hr:Byt (inv8 (pow8 k)):=zwS _
  have ha:(addL q (sumQ 32 (rs.map (·.2)))).length < 100000:=by unfold addL; split<;>simp<;>omega
  simp (disch:=first | omega | assumption | (simp; done) | fail) [-List.all_eq_true,hQ,zhd _ _ _ _ (show q.length < 100000 by omega),zuW k (by omega),zBY (zwO k),zh4 _ _ ha hr.1 hr.2]
  rfl
theorem zEp (tp tq tg:Tag) {p q:List Int} (hp:p.length=32) (hq:q.length=32) {j k:Nat} (hj:j < 8) (hk:k < 8):
    zcx [.sl tp (uL p),.sl tq (uL q),.sl tg (pL ps),.int .i64 j,.int .i64 k]=some (.tup [.sl .own (uL (twoX p q (ps.map (·.2)) j k)),.sl .own (uL (twoY p q (ps.map (·.2)) j k))]):=by
  rw [zqX,zcN,zcN,zcA]
  have hm:(ps.map fun x=>(zbJ x.1 x.2,x.2)).map (·.2)=ps.map (·.2):=by rw [List.map_map]; rfl
  have hlen:(ps.map fun x=>(zbJ x.1 x.2,x.2)).length=ps.length:=by simp
  have hs':∀ x∈(ps.map fun x=>(zbJ x.1 x.2,x.2)),x.2.length=32:=by intro x hx; obtain ⟨y,hy,rfl⟩:=List.mem_map.1 hx; exact hs y hy
  rw [←hm]
  rw [←hlen] at h1 h8
  generalize (ps.map fun x=>(zbJ x.1 x.2,x.2))=rs at*
  unfold zl9
  have hQ:=zzO (n:=32) .lent (ps:=rs) (by omega) h1 (by omega) hs'
  have hP:=zzN (n:=32) .lent (ps:=rs) (by omega) h1 (by omega) hs'
  have hr:Byt (inv8 (xor8 (pow8 j) (pow8 k))):=zwS _
  have addl:∀ {a b:List Int},a.length≤32→(addL a b).length≤32:=by intro a b h; unfold addL; split<;>simp<;>omega
  have h2:(addL p (sumP 32 (rs.map (·.2)))).length≤32:=addl (by omega)
  have h3:(addL q (sumQ 32 (rs.map (·.2)))).length≤32:=addl (by omega)
  have h4:(addL (addL q (sumQ 32 (rs.map (·.2)))) ((addL p (sumP 32 (rs.map (·.2)))).map (mul8 · (pow8 k)))).length≤32:=addl h3
  simp (disch:=first | omega | assumption | (simp; done) | fail) [-List.all_eq_true,hQ,hP,zhd _ _ _ _ (show q.length < 100000 by omega),zhd _ _ _ _ (show p.length < 100000 by omega),zuW j (by omega),zuW k (by omega),zBY (zmG _ _),
    zh4 _ _ (show (addL p (sumP 32 (rs.map (·.2)))).length < 100000 by omega) (zhK k).1 (zhK k).2,zhd _ _ _ _ (show (addL q (sumQ 32 (rs.map (·.2)))).length < 100000 by omega),zhd _ _ _ _ (show (addL p (sumP 32 (rs.map (·.2)))).length < 100000 by omega),
    zh4 _ _ (show (addL (addL q (sumQ 32 (rs.map (·.2)))) ((addL p (sumP 32 (rs.map (·.2)))).map (mul8 · (pow8 k)))).length < 100000 by omega) hr.1 hr.2]
  exact ⟨rfl,rfl⟩
end
end Wf

