/- A part of the proof: lemmas that the law's row leans on. -/
import Derived.Test.YtlbdpbbpoghncaaPd
set_option linter.all false
namespace Wf
open Go Go.RowKit Go.Proofs
set_option linter.unusedVariables false
set_option maxRecDepth 100000
def zfQ:Ann:={ loops:=[] }
noncomputable def zab:List D→Option D:=denP Try.prog (zay []) zfQ [0] ID.wattlekeep_Within
theorem ziQ:za7 Try.prog ID.wattlekeep_Within (.pure [0] zab):=zat (zaC []) zbB ⟨Try.f16,by kernel_rfl,by kernel_rfl,by kernel_rfl⟩
noncomputable def zcS:Fact Try.prog:=⟨ID.wattlekeep_Within,(.pure [0] zab),ziQ⟩
noncomputable def zex (a0:Int) (a1:Int):Option D:=
  brK (decide (a1 < (1:Int)))
    (some (D.int IntKind.i64 (0:Int)))
    (sif (a1≠(0:Int)) <|
    letN (Int.tmod a0 a1) fun n1=>
    brK (decide (n1 < (0:Int)))
      (letN (IntKind.wrap IntKind.i64 (n1+a1)) fun n2=>
      some (D.int IntKind.i64 n2))
      (some (D.int IntKind.i64 n1)))
theorem zmp (a0:Int) (a1:Int):denP Try.prog (zay []) zfQ [0] ID.wattlekeep_Within [.int .i64 a0,.int .i64 a1]=zex a0 a1:=by kernel_rfl
theorem zjv (a0:Int) (a1:Int):zab [.int .i64 a0,.int .i64 a1]=zex a0 a1:=zmp a0 a1
def zfR:Ann:={ loops:=[] }
noncomputable def zag:List D→Option D:=denP Try.prog (zay []) zfR [0] ID.wattleref01_Check
theorem ziR:za7 Try.prog ID.wattleref01_Check (.pure [0] zag):=zat (zaC []) zbB ⟨Try.f53,by kernel_rfl,by kernel_rfl,by kernel_rfl⟩
noncomputable def zcT:Fact Try.prog:=⟨ID.wattleref01_Check,(.pure [0] zag),ziR⟩
noncomputable def zey (a0_0:Int) (a0_1:Int) (a0_2:Int):Option D:=
  brK (a0_0 == (6:Int))
    (brK (a0_0 == (5:Int))
      (brK (decide (a0_1≥(4:Int)))
        (brK (decide (a0_1≤(8:Int)))
          (brK (a0_2 == (1:Int))
            (some (D.bool true))
            (brK (a0_2 == (2:Int))
              (some (D.bool true))
              (some (D.bool (a0_2 == (4:Int))))))
          (some (D.bool false)))
        (some (D.bool false)))
      (brK (a0_0 == (6:Int))
        (brK (decide (a0_1≥(4:Int)))
          (brK (decide (a0_1≤(8:Int)))
            (brK (a0_2 == (1:Int))
              (some (D.bool true))
              (brK (a0_2 == (2:Int))
                (some (D.bool true))
                (some (D.bool (a0_2 == (4:Int))))))
            (some (D.bool false)))
          (some (D.bool false)))
        (some (D.bool false))))
    (brK (a0_0 == (5:Int))
      (brK (decide (a0_1≥(3:Int)))
        (brK (decide (a0_1≤(8:Int)))
          (brK (a0_2 == (1:Int))
            (some (D.bool true))
            (brK (a0_2 == (2:Int))
              (some (D.bool true))
              (some (D.bool (a0_2 == (4:Int))))))
          (some (D.bool false)))
        (some (D.bool false)))
      (brK (a0_0 == (6:Int))
        (brK (decide (a0_1≥(3:Int)))
          (brK (decide (a0_1≤(8:Int)))
            (brK (a0_2 == (1:Int))
              (some (D.bool true))
              (brK (a0_2 == (2:Int))
                (some (D.bool true))
                (some (D.bool (a0_2 == (4:Int))))))
            (some (D.bool false)))
          (some (D.bool false)))
        (some (D.bool false))))
theorem zmq (a0_0:Int) (a0_1:Int) (a0_2:Int):denP Try.prog (zay []) zfR [0] ID.wattleref01_Check [.agg [.int .i64 a0_0,.int .i64 a0_1,.int .i64 a0_2]]=zey a0_0 a0_1 a0_2:=by kernel_rfl
theorem zjw (a0_0:Int) (a0_1:Int) (a0_2:Int):zag [.agg [.int .i64 a0_0,.int .i64 a0_1,.int .i64 a0_2]]=zey a0_0 a0_1 a0_2:=zmq a0_0 a0_1 a0_2
def zfe:Ann:={ loops:=[] }
noncomputable def zaD:List D→Option D:=denP Try.prog (zay [(ID.wattleref01_Check,(.pure [0] zag))]) zfe [0] ID.wattleref01_Budget
theorem zie:za7 Try.prog ID.wattleref01_Budget (.pure [0] zaD):=zat (zaC [zcT]) zbB ⟨Try.f76,by kernel_rfl,by kernel_rfl,by kernel_rfl⟩
noncomputable def zeV:Fact Try.prog:=⟨ID.wattleref01_Budget,(.pure [0] zaD),zie⟩
noncomputable def zed (zag:List D→Option D) (a0_0:Int) (a0_1:Int) (a0_2:Int):Option D:=
  zar (zag [D.agg [D.int IntKind.i64 a0_0,D.int IntKind.i64 a0_1,D.int IntKind.i64 a0_2]]) fun r1=>
  asB r1 fun b2=>
  brK (!b2)
    (some (D.int IntKind.i64 (0:Int)))
    (letN (IntKind.wrap IntKind.i64 (a0_0 - (4:Int))) fun n3=>
    some (D.int IntKind.i64 n3))
theorem zlr (zag:List D→Option D) (a0_0:Int) (a0_1:Int) (a0_2:Int):denP Try.prog (zay [(ID.wattleref01_Check,(.pure [0] zag))]) zfe [0] ID.wattleref01_Budget [.agg [.int .i64 a0_0,.int .i64 a0_1,.int .i64 a0_2]]=zed zag a0_0 a0_1 a0_2:=by kernel_rfl
theorem ziS (a0_0:Int) (a0_1:Int) (a0_2:Int):zaD [.agg [.int .i64 a0_0,.int .i64 a0_1,.int .i64 a0_2]]=zed zag a0_0 a0_1 a0_2:=zlr zag a0_0 a0_1 a0_2
def zfS:Ann:={ loops:=[] }
noncomputable def zaf:List D→Option D:=denP Try.prog (zay [(ID.wattleref01_Check,(.pure [0] zag)),(ID.wattleref01_Budget,(.pure [0] zaD))]) zfS [0] ID.wattleref01_Width
theorem ziT:za7 Try.prog ID.wattleref01_Width (.pure [0] zaf):=zat (zaC [zcT,zeV]) zbB ⟨Try.f32,by kernel_rfl,by kernel_rfl,by kernel_rfl⟩
noncomputable def zcU:Fact Try.prog:=⟨ID.wattleref01_Width,(.pure [0] zaf),ziT⟩
noncomputable def zez (zag:List D→Option D) (zaD:List D→Option D) (a0_0:Int) (a0_1:Int) (a0_2:Int):Option D:=
  zar (zag [D.agg [D.int IntKind.i64 a0_0,D.int IntKind.i64 a0_1,D.int IntKind.i64 a0_2]]) fun r1=>
  asB r1 fun b2=>
  brK (!b2)
    (some (D.int IntKind.i64 (0:Int)))
    (zar (zaD [D.agg [D.int IntKind.i64 a0_0,D.int IntKind.i64 a0_1,D.int IntKind.i64 a0_2]]) fun r3=>
    asI IntKind.i64 r3 fun i4=>
    letN (IntKind.wrap IntKind.i64 (a0_1 - i4)) fun n5=>
    some (D.int IntKind.i64 n5))
theorem zmr (zag:List D→Option D) (zaD:List D→Option D) (a0_0:Int) (a0_1:Int) (a0_2:Int):denP Try.prog (zay [(ID.wattleref01_Check,(.pure [0] zag)),(ID.wattleref01_Budget,(.pure [0] zaD))]) zfS [0] ID.wattleref01_Width [.agg [.int .i64 a0_0,.int .i64 a0_1,.int .i64 a0_2]]=zez zag zaD a0_0 a0_1 a0_2:=by kernel_rfl
theorem zjx (a0_0:Int) (a0_1:Int) (a0_2:Int):zaf [.agg [.int .i64 a0_0,.int .i64 a0_1,.int .i64 a0_2]]=zez zag zaD a0_0 a0_1 a0_2:=zmr zag zaD a0_0 a0_1 a0_2
def zgQ:Ann:={ loops:=[] }
noncomputable def zbe:List D→Option D:=denP Try.prog (zay [(ID.wattleref01_Check,(.pure [0] zag)),(ID.wattleref01_Width,(.pure [0] zaf))]) zgQ [0] ID.wattleref01_Can
theorem zki:za7 Try.prog ID.wattleref01_Can (.pure [0] zbe):=zat (zaC [zcT,zcU]) zbB ⟨Try.f61,by kernel_rfl,by kernel_rfl,by kernel_rfl⟩
noncomputable def zls:Fact Try.prog:=⟨ID.wattleref01_Can,(.pure [0] zbe),zki⟩
noncomputable def zfq (zag:List D→Option D) (zaf:List D→Option D) (a0_0:Int) (a0_1:Int) (a0_2:Int) (a1_0:Int) (a1_1:Int) (a1_2:Int):Option D:=
  zar (zag [D.agg [D.int IntKind.i64 a0_0,D.int IntKind.i64 a0_1,D.int IntKind.i64 a0_2]]) fun r1=>
  asB r1 fun b2=>
  brK b2
    (zar (zag [D.agg [D.int IntKind.i64 a1_0,D.int IntKind.i64 a1_1,D.int IntKind.i64 a1_2]]) fun r3=>
    asB r3 fun b4=>
    brK b4
      (brK (!(a0_0 == a1_0 && (a0_1 == a1_1 && (a0_2 == a1_2 && true))))
        (brK (decide (a1_1≥a0_1))
          (brK (decide (a1_0≥a0_0))
            (zar (zaf [D.agg [D.int IntKind.i64 a1_0,D.int IntKind.i64 a1_1,D.int IntKind.i64 a1_2]]) fun r5=>
            asI IntKind.i64 r5 fun i6=>
            zar (zaf [D.agg [D.int IntKind.i64 a0_0,D.int IntKind.i64 a0_1,D.int IntKind.i64 a0_2]]) fun r7=>
            asI IntKind.i64 r7 fun i8=>
            some (D.bool (decide (i6≥i8))))
            (some (D.bool false)))
          (some (D.bool false)))
        (some (D.bool false)))
      (some (D.bool false)))
    (some (D.bool false))
theorem zom (zag:List D→Option D) (zaf:List D→Option D) (a0_0:Int) (a0_1:Int) (a0_2:Int) (a1_0:Int) (a1_1:Int) (a1_2:Int):denP Try.prog (zay [(ID.wattleref01_Check,(.pure [0] zag)),(ID.wattleref01_Width,(.pure [0] zaf))]) zgQ [0] ID.wattleref01_Can [.agg [.int .i64 a0_0,.int .i64 a0_1,.int .i64 a0_2],.agg [.int .i64 a1_0,.int .i64 a1_1,.int .i64 a1_2]]=zfq zag zaf a0_0 a0_1 a0_2 a1_0 a1_1 a1_2:=by kernel_rfl
theorem zlt (a0_0:Int) (a0_1:Int) (a0_2:Int) (a1_0:Int) (a1_1:Int) (a1_2:Int):zbe [.agg [.int .i64 a0_0,.int .i64 a0_1,.int .i64 a0_2],.agg [.int .i64 a1_0,.int .i64 a1_1,.int .i64 a1_2]]=zfq zag zaf a0_0 a0_1 a0_2 a1_0 a1_1 a1_2:=zom zag zaf a0_0 a0_1 a0_2 a1_0 a1_1 a1_2
def zgR:Ann:={ loops:=[] }
noncomputable def zbv:List D→Option D:=denP Try.prog (zay [(ID.wattlekeep_Within,(.pure [0] zab)),(ID.wattleref01_Can,(.pure [0] zbe))]) zgR [0,0] ID.wattleplay_Pair
theorem zkj:za7 Try.prog ID.wattleplay_Pair (.pure [0,0] zbv):=zat (zaC [zcS,zls]) zbB ⟨Try.f47,by kernel_rfl,by kernel_rfl,by kernel_rfl⟩
noncomputable def zlu:Fact Try.prog:=⟨ID.wattleplay_Pair,(.pure [0,0] zbv),zkj⟩
noncomputable def zfr (zab:List D→Option D) (zbe:List D→Option D) (a0:Int) (a1:Int):Option D:=
  zar (zab [D.int IntKind.i64 a0,D.int IntKind.i64 (2:Int)]) fun r1=>
  asI IntKind.i64 r1 fun i2=>
  letN (IntKind.wrap IntKind.i64 ((3:Int)+i2)) fun n3=>
  letN (IntKind.wrap IntKind.i64 (Int.tdiv a0 (2:Int))) fun n4=>
  zar (zab [D.int IntKind.i64 n4,D.int IntKind.i64 (3:Int)]) fun r5=>
  asI IntKind.i64 r5 fun i6=>
  sif ((0:Int)≤i6) <|
  getK ([D.int IntKind.i64 (1:Int),D.int IntKind.i64 (2:Int),D.int IntKind.i64 (4:Int)]) (Int.toNat i6) fun d7=>
  asI IntKind.i64 d7 fun i8=>
  letN (IntKind.wrap IntKind.i64 (Int.tdiv a0 (6:Int))) fun n9=>
  zar (zab [D.int IntKind.i64 n9,D.int IntKind.i64 (4:Int)]) fun r10=>
  asI IntKind.i64 r10 fun i11=>
  brK (i11 == (3:Int))
    (zar (zab [D.int IntKind.i64 a0,D.int IntKind.i64 (2:Int)]) fun r12=>
    asI IntKind.i64 r12 fun i13=>
    letN (IntKind.wrap IntKind.i64 ((4:Int)+i13)) fun n14=>
    zar (zab [D.int IntKind.i64 a1,D.int IntKind.i64 (3:Int)]) fun r15=>
    asI IntKind.i64 r15 fun i16=>
    letN (IntKind.wrap IntKind.i64 (n14+i16)) fun n17=>
    letN (IntKind.wrap IntKind.i64 (Int.tdiv a1 (3:Int))) fun n18=>
    zar (zab [D.int IntKind.i64 n18,D.int IntKind.i64 (3:Int)]) fun r19=>
    asI IntKind.i64 r19 fun i20=>
    sif ((0:Int)≤i20) <|
    getK ([D.int IntKind.i64 (1:Int),D.int IntKind.i64 (2:Int),D.int IntKind.i64 (4:Int)]) (Int.toNat i20) fun d21=>
    asI IntKind.i64 d21 fun i22=>
    zar (zbe [D.agg [D.int IntKind.i64 (6:Int),D.int IntKind.i64 n14,D.int IntKind.i64 i8],D.agg [D.int IntKind.i64 (6:Int),D.int IntKind.i64 n17,D.int IntKind.i64 i22]]) fun r23=>
    asB r23 fun b24=>
    brK (!b24)
      (letN (IntKind.wrap IntKind.i64 (n17+(1:Int))) fun n25=>
      some (D.tup [D.agg [D.int IntKind.i64 (6:Int),D.int IntKind.i64 n14,D.int IntKind.i64 i8],D.agg [D.int IntKind.i64 (6:Int),D.int IntKind.i64 n25,D.int IntKind.i64 i22]]))
      (some (D.tup [D.agg [D.int IntKind.i64 (6:Int),D.int IntKind.i64 n14,D.int IntKind.i64 i8],D.agg [D.int IntKind.i64 (6:Int),D.int IntKind.i64 n17,D.int IntKind.i64 i22]])))
    (zar (zab [D.int IntKind.i64 a1,D.int IntKind.i64 (3:Int)]) fun r26=>
    asI IntKind.i64 r26 fun i27=>
    letN (IntKind.wrap IntKind.i64 (n3+i27)) fun n28=>
    letN (IntKind.wrap IntKind.i64 (Int.tdiv a1 (3:Int))) fun n29=>
    zar (zab [D.int IntKind.i64 n29,D.int IntKind.i64 (3:Int)]) fun r30=>
    asI IntKind.i64 r30 fun i31=>
    sif ((0:Int)≤i31) <|
    getK ([D.int IntKind.i64 (1:Int),D.int IntKind.i64 (2:Int),D.int IntKind.i64 (4:Int)]) (Int.toNat i31) fun d32=>
    asI IntKind.i64 d32 fun i33=>
    letN (IntKind.wrap IntKind.i64 (Int.tdiv a1 (9:Int))) fun n34=>
    zar (zab [D.int IntKind.i64 n34,D.int IntKind.i64 (2:Int)]) fun r35=>
    asI IntKind.i64 r35 fun i36=>
    brK (i36 == (1:Int))
      (letN (IntKind.wrap IntKind.i64 (n3+(1:Int))) fun n37=>
      letN (max n28 n37) fun n38=>
      zar (zbe [D.agg [D.int IntKind.i64 (5:Int),D.int IntKind.i64 n3,D.int IntKind.i64 i8],D.agg [D.int IntKind.i64 (6:Int),D.int IntKind.i64 n38,D.int IntKind.i64 i33]]) fun r39=>
      asB r39 fun b40=>
      brK (!b40)
        (letN (IntKind.wrap IntKind.i64 (n38+(1:Int))) fun n41=>
        some (D.tup [D.agg [D.int IntKind.i64 (5:Int),D.int IntKind.i64 n3,D.int IntKind.i64 i8],D.agg [D.int IntKind.i64 (6:Int),D.int IntKind.i64 n41,D.int IntKind.i64 i33]]))
        (some (D.tup [D.agg [D.int IntKind.i64 (5:Int),D.int IntKind.i64 n3,D.int IntKind.i64 i8],D.agg [D.int IntKind.i64 (6:Int),D.int IntKind.i64 n38,D.int IntKind.i64 i33]])))
      (zar (zbe [D.agg [D.int IntKind.i64 (5:Int),D.int IntKind.i64 n3,D.int IntKind.i64 i8],D.agg [D.int IntKind.i64 (5:Int),D.int IntKind.i64 n28,D.int IntKind.i64 i33]]) fun r42=>
      asB r42 fun b43=>
      brK (!b43)
        (letN (IntKind.wrap IntKind.i64 (n28+(1:Int))) fun n44=>
        some (D.tup [D.agg [D.int IntKind.i64 (5:Int),D.int IntKind.i64 n3,D.int IntKind.i64 i8],D.agg [D.int IntKind.i64 (5:Int),D.int IntKind.i64 n44,D.int IntKind.i64 i33]]))
        (some (D.tup [D.agg [D.int IntKind.i64 (5:Int),D.int IntKind.i64 n3,D.int IntKind.i64 i8],D.agg [D.int IntKind.i64 (5:Int),D.int IntKind.i64 n28,D.int IntKind.i64 i33]]))))
theorem zon (zab:List D→Option D) (zbe:List D→Option D) (a0:Int) (a1:Int):denP Try.prog (zay [(ID.wattlekeep_Within,(.pure [0] zab)),(ID.wattleref01_Can,(.pure [0] zbe))]) zgR [0,0] ID.wattleplay_Pair [.int .i64 a0,.int .i64 a1]=zfr zab zbe a0 a1:=by kernel_rfl
theorem zlv (a0:Int) (a1:Int):zbv [.int .i64 a0,.int .i64 a1]=zfr zab zbe a0 a1:=zon zab zbe a0 a1
def zpc:Ann:={ loops:=[],pubs:=[(1,[(0,119,7649)])],ks:=[(7649,true)] }
noncomputable def zbR:List D→List Tb→Option Ans:=denS Try.prog (zay []) zpc [0] ID.disk_New
theorem zrC:za7 Try.prog ID.disk_New (.st [] [0] [(7649,true)] zbR):=zbc (zaC []) zbB ⟨Try.f80,by kernel_rfl,by kernel_rfl,by kernel_rfl⟩
noncomputable def znr:Fact Try.prog:=⟨ID.disk_New,(.st [] [0] [(7649,true)] zbR),zrC⟩
noncomputable def zoo (T0:Tb):Option Ans:=
  letT (T0++[List.map D.own0 (List.reverse ([D.bool false,D.sl Tag.nil []]++List.replicate 1664 (D.int IntKind.u8 (0:Int))))]) fun U1=>
  some (Ans.mk (D.h (7649:Nat) (List.length T0) (0:Nat)) [] [U1])
theorem zyW (T0:Tb):denS Try.prog (zay []) zpc [0] ID.disk_New [] [T0]=zoo T0:=by kernel_rfl
theorem ztY (T0:Tb):zbR [] [T0]=zoo T0:=zyW T0
def zns:Ann:={ loops:=[(1,[.dead,.dead,.dead,.dead,.val (.cell (.hnd (3840:Nat))),.dead,.dead,.dead,.dead,.dead,.dead,.dead,.dead,.dead,.val (.cell (.int .i64)),.val (.cell (.int .i64))])],pubs:=[(3,[(4,63,3840)])],ks:=[(3840,true),(7649,true)] }
noncomputable def zbr:List D→List Tb→Option Ans:=denS Try.prog (zay [(ID.disk_New,(.st [] [0] [(7649,true)] zbR))]) zns [0,0] ID.bench_New
theorem zq0:za7 Try.prog ID.bench_New (.st [] [0,0] [(3840,true),(7649,true)] zbr):=zbc (zaC [znr]) zbB ⟨Try.f35,by kernel_rfl,by kernel_rfl,by kernel_rfl⟩
noncomputable def zlX:Fact Try.prog:=⟨ID.bench_New,(.st [] [0,0] [(3840,true),(7649,true)] zbr),zq0⟩
noncomputable def zms (zbR:List D→List Tb→Option Ans) (a0:Int) (T0:Tb) (T1:Tb):Option Ans:=
  brK (decide (a0 < (1:Int)))
    (some (Ans.mk (D.tup [D.nilp,D.int IntKind.i64 (1:Int)]) [] [T0,T1]))
    (brK (decide (a0 > (8:Int)))
      (some (Ans.mk (D.tup [D.nilp,D.int IntKind.i64 (1:Int)]) [] [T0,T1]))
      (letT (T0++[[D.own0 (D.int IntKind.i64 (0:Int)),D.own0 (D.int IntKind.i64 (-1:Int)),D.own0 (D.bool false),D.own0 (D.sl Tag.nil [])]]) fun U1=>
      zcd (α:=(Nat×Int×Int×PUnit)×List (List D)×List (List D)×PUnit) (fun again2 ((x3,(i4,(i5,_))),(U6,(U7,_)))=>
        brK (decide (i5 < i4))
          (getK U6 x3 fun d8=>
          getK d8 ((3:Nat)) fun d9=>
          za4 d9 fun l10=>
          zar (zbR [] [U7]) fun r11=>
          nilK r11.outs <|
          zcq r11.tbs fun c12 q13=>
          nilK q13 <|
          sif (zh7 r11.r=true) <|
          sif (zeb (1:Nat) [r11.r]=true) <|
          getK U6 x3 fun d14=>
          getK d14 ((3:Nat)) fun d15=>
          za4 d15 fun l16=>
          sif (List.length l10+(1:Nat)≤(4294967296:Nat)) <|
          sif (zeb (1:Nat) [r11.r]=true) <|
          sif (List.length l10=List.length l16) <|
          letT (setT U6 x3 (3:Nat) D.undef) fun U17=>
          getK U17 x3 fun d18=>
          sif ((4:Nat)≤List.length d18) <|
          sif (List.length l10+(1:Nat)=List.length (l16++[r11.r])) <|
          sif (zdf (l16++[r11.r])=true) <|
          sif (zfJ (1:Nat) (l16++[r11.r])=true) <|
          letT (zaZ U17 x3 (3:Nat) [D.sl Tag.own (l16++[r11.r])]) fun U19=>
          letN (IntKind.wrap IntKind.i64 (i5+(1:Int))) fun n20=>
          again2 (((x3,i4,n20,PUnit.unit),U19,c12,PUnit.unit)))
          (some (Ans.mk (D.tup [D.h (3840) x3 (0:Nat),D.int IntKind.i64 (0:Int)]) [] [U6,U7])))
        (((List.length T0,a0,(0:Int),PUnit.unit),U1,T1,PUnit.unit))))
theorem zwL (zbR:List D→List Tb→Option Ans) (a0:Int) (T0:Tb) (T1:Tb):denS Try.prog (zay [(ID.disk_New,(.st [] [0] [(7649,true)] zbR))]) zns [0,0] ID.bench_New [.int .i64 a0] [T0,T1]=zms zbR a0 T0 T1:=by kernel_rfl
theorem zrD (a0:Int) (T0:Tb) (T1:Tb):zbr [.int .i64 a0] [T0,T1]=zms zbR a0 T0 T1:=zwL zbR a0 T0 T1
def zgS:Ann:={ loops:=[(0,[.val (.cell (.int .i64)),.val (.cell (.int .i64)),.dead,.dead,.dead,.own 1,.dead,.dead,.dead,.dead,.val (.cell (.int .i64)),.val (.cell (.int .i64))])] }
noncomputable def zbw:List D→Option D:=denP Try.prog (zay [(ID.wattlekeep_Within,(.pure [0] zab))]) zgS [1] ID.wattleplay_Live
theorem zkk:za7 Try.prog ID.wattleplay_Live (.pure [1] zbw):=zat (zaC [zcS]) zbB ⟨Try.f18,by kernel_rfl,by kernel_rfl,by kernel_rfl⟩
noncomputable def zlw:Fact Try.prog:=⟨ID.wattleplay_Live,(.pure [1] zbw),zkk⟩
noncomputable def zfs (zab:List D→Option D) (a0:Int) (a1:Int):Option D:=
  sif ((0:Int)≤a1) <|
  sif (a1=a1) <|
  sif (a1*(1:Int)≤(140737488355328:Int)) <|
  sif (a1≤(140737488355328:Int)) <|
  sif ((0:Nat)+Int.toNat a1≤List.length (List.replicate (Int.toNat a1) (D.bool false))) <|
  sif (Int.toNat a1=List.length (List.replicate (Int.toNat a1) (D.bool false))) <|
  zcd (α:=(Int×Int×List D×Int×Int×PUnit)×PUnit) (fun again1 ((i2,(i3,(l4,(i5,(i6,_))))),_)=>
    brK (decide (i6 < i5))
      (sif ((0:Int)≤i6) <|
      sif (Int.toNat i6 < List.length l4) <|
      getK l4 ((0:Nat)+Int.toNat i6) fun d7=>
      sif (D.isAgg d7=false) <|
      letN (IntKind.wrap IntKind.i64 (i6+(1:Int))) fun n8=>
      sif (List.length l4=List.length (List.set l4 ((0:Nat)+Int.toNat i6) (D.bool true))) <|
      again1 (((i2,i3,List.set l4 ((0:Nat)+Int.toNat i6) (D.bool true),i5,n8,PUnit.unit),PUnit.unit)))
      (brK (decide (i3 > (0:Int)))
        (zar (zab [D.int IntKind.i64 i2,D.int IntKind.i64 (3:Int)]) fun r9=>
        asI IntKind.i64 r9 fun i10=>
        brK (decide (i10 > (0:Int)))
          (letN (IntKind.wrap IntKind.i64 (Int.tdiv i2 (3:Int))) fun n11=>
          zar (zab [D.int IntKind.i64 n11,D.int IntKind.i64 i3]) fun r12=>
          asI IntKind.i64 r12 fun i13=>
          sif ((0:Int)≤i13) <|
          sif (Int.toNat i13 < List.length l4) <|
          getK l4 ((0:Nat)+Int.toNat i13) fun d14=>
          sif (D.isAgg d14=false) <|
          brK (decide (i3 > (0:Int)))
            (zar (zab [D.int IntKind.i64 i2,D.int IntKind.i64 (9:Int)]) fun r15=>
            asI IntKind.i64 r15 fun i16=>
            brK (i16 == (8:Int))
              (letN (IntKind.wrap IntKind.i64 (Int.tdiv i2 (27:Int))) fun n17=>
              zar (zab [D.int IntKind.i64 n17,D.int IntKind.i64 i3]) fun r18=>
              asI IntKind.i64 r18 fun i19=>
              sif ((0:Int)≤i19) <|
              sif (Int.toNat i19 < List.length l4) <|
              getK (List.set l4 ((0:Nat)+Int.toNat i13) (D.bool false)) ((0:Nat)+Int.toNat i19) fun d20=>
              sif (D.isAgg d20=false) <|
              sif (List.length l4=List.length (List.set (List.set l4 ((0:Nat)+Int.toNat i13) (D.bool false)) ((0:Nat)+Int.toNat i19) (D.bool false))) <|
              sif (List.all (List.set (List.set l4 ((0:Nat)+Int.toNat i13) (D.bool false)) ((0:Nat)+Int.toNat i19) (D.bool false)) D.free=true) <|
              some (D.sl Tag.own (List.set (List.set l4 ((0:Nat)+Int.toNat i13) (D.bool false)) ((0:Nat)+Int.toNat i19) (D.bool false))))
              (sif (List.length l4=List.length (List.set l4 ((0:Nat)+Int.toNat i13) (D.bool false))) <|
              sif (List.all (List.set l4 ((0:Nat)+Int.toNat i13) (D.bool false)) D.free=true) <|
              some (D.sl Tag.own (List.set l4 ((0:Nat)+Int.toNat i13) (D.bool false)))))
            (sif (List.length l4=List.length (List.set l4 ((0:Nat)+Int.toNat i13) (D.bool false))) <|
            sif (List.all (List.set l4 ((0:Nat)+Int.toNat i13) (D.bool false)) D.free=true) <|
            some (D.sl Tag.own (List.set l4 ((0:Nat)+Int.toNat i13) (D.bool false)))))
          (brK (decide (i3 > (0:Int)))
            (zar (zab [D.int IntKind.i64 i2,D.int IntKind.i64 (9:Int)]) fun r21=>
            asI IntKind.i64 r21 fun i22=>
            brK (i22 == (8:Int))
              (letN (IntKind.wrap IntKind.i64 (Int.tdiv i2 (27:Int))) fun n23=>
              zar (zab [D.int IntKind.i64 n23,D.int IntKind.i64 i3]) fun r24=>
              asI IntKind.i64 r24 fun i25=>
              sif ((0:Int)≤i25) <|
              sif (Int.toNat i25 < List.length l4) <|
              getK l4 ((0:Nat)+Int.toNat i25) fun d26=>
              sif (D.isAgg d26=false) <|
              sif (List.length l4=List.length (List.set l4 ((0:Nat)+Int.toNat i25) (D.bool false))) <|
              sif (List.all (List.set l4 ((0:Nat)+Int.toNat i25) (D.bool false)) D.free=true) <|
              some (D.sl Tag.own (List.set l4 ((0:Nat)+Int.toNat i25) (D.bool false))))
              (sif (List.length l4=List.length l4) <|
              sif (List.all l4 D.free=true) <|
              some (D.sl Tag.own l4)))
            (sif (List.length l4=List.length l4) <|
            sif (List.all l4 D.free=true) <|
            some (D.sl Tag.own l4))))
        (brK (decide (i3 > (0:Int)))
          (zar (zab [D.int IntKind.i64 i2,D.int IntKind.i64 (9:Int)]) fun r27=>
          asI IntKind.i64 r27 fun i28=>
          brK (i28 == (8:Int))
            (letN (IntKind.wrap IntKind.i64 (Int.tdiv i2 (27:Int))) fun n29=>
            zar (zab [D.int IntKind.i64 n29,D.int IntKind.i64 i3]) fun r30=>
            asI IntKind.i64 r30 fun i31=>
            sif ((0:Int)≤i31) <|
            sif (Int.toNat i31 < List.length l4) <|
            getK l4 ((0:Nat)+Int.toNat i31) fun d32=>
            sif (D.isAgg d32=false) <|
            sif (List.length l4=List.length (List.set l4 ((0:Nat)+Int.toNat i31) (D.bool false))) <|
            sif (List.all (List.set l4 ((0:Nat)+Int.toNat i31) (D.bool false)) D.free=true) <|
            some (D.sl Tag.own (List.set l4 ((0:Nat)+Int.toNat i31) (D.bool false))))
            (sif (List.length l4=List.length l4) <|
            sif (List.all l4 D.free=true) <|
            some (D.sl Tag.own l4)))
          (sif (List.length l4=List.length l4) <|
          sif (List.all l4 D.free=true) <|
          some (D.sl Tag.own l4)))))
    (((a0,a1,List.replicate (Int.toNat a1) (D.bool false),(↑(Int.toNat a1):Int),(0:Int),PUnit.unit),PUnit.unit))
theorem zop (zab:List D→Option D) (a0:Int) (a1:Int):denP Try.prog (zay [(ID.wattlekeep_Within,(.pure [0] zab))]) zgS [1] ID.wattleplay_Live [.int .i64 a0,.int .i64 a1]=zfs zab a0 a1:=by kernel_rfl
theorem zlx (a0:Int) (a1:Int):zbw [.int .i64 a0,.int .i64 a1]=zfs zab a0 a1:=zop zab a0 a1
def zgT:Ann:={ loops:=[],ks:=[(3840,false)] }
noncomputable def zau:List D→List Tb→Option Ans:=denS Try.prog (zay []) zgT [0] ID.bench_Bench_Len
theorem zkl:za7 Try.prog ID.bench_Bench_Len (.st [] [0] [(3840,false)] zau):=zbc (zaC []) zbB ⟨Try.f68,by kernel_rfl,by kernel_rfl,by kernel_rfl⟩
noncomputable def zga:Fact Try.prog:=⟨ID.bench_Bench_Len,(.st [] [0] [(3840,false)] zau),zkl⟩
noncomputable def zft (a0:Nat) (T0:Tb):Option Ans:=
  getK T0 a0 fun d1=>
  getK d1 ((3:Nat)) fun d2=>
  za4 d2 fun l3=>
  getK T0 a0 fun d4=>
  getK d4 ((3:Nat)) fun d5=>
  za4 d5 fun l6=>
  sif ((0:Nat)+List.length l3≤List.length l6) <|
  some (Ans.mk (D.int IntKind.i64 (↑(List.length l3):Int)) [] [])
theorem zoq (a0:Nat) (T0:Tb):denS Try.prog (zay []) zgT [0] ID.bench_Bench_Len [.h 3840 a0 0] [T0]=zft a0 T0:=by kernel_rfl
theorem zly (a0:Nat) (T0:Tb):zau [.h 3840 a0 0] [T0]=zft a0 T0:=zoq a0 T0
def zeM:Ann:={ loops:=[(0,[.val (.cell .lent),.val (.cell (.int .i64)),.dead,.dead,.dead,.dead,.dead,.val (.cell (.int .i64)),.val (.cell (.int .i64))])] }
noncomputable def za8:List D→Option D:=denP Try.prog (zay []) zeM [0] ID.slices_Index_int_int
theorem zhd:za7 Try.prog ID.slices_Index_int_int (.pure [0] za8):=zat (zaC []) zbB ⟨Try.f87,by kernel_rfl,by kernel_rfl,by kernel_rfl⟩
noncomputable def zhC:Fact Try.prog:=⟨ID.slices_Index_int_int,(.pure [0] za8),zhd⟩
noncomputable def zdB (a0:List D) (a1:Int):Option D:=
  zcd (α:=(List D×Int×Int×Int×PUnit)×PUnit) (fun again1 ((l2,(i3,(i4,(i5,_)))),_)=>
    brK (decide (i5 < i4))
      (sif ((0:Int)≤i5) <|
      getK l2 (Int.toNat i5) fun d6=>
      asI IntKind.i64 d6 fun i7=>
      brK (i3 == i7)
        (some (D.int IntKind.i64 i5))
        (letN (IntKind.wrap IntKind.i64 (i5+(1:Int))) fun n8=>
        again1 (((l2,i3,i4,n8,PUnit.unit),PUnit.unit))))
      (some (D.int IntKind.i64 (-1:Int))))
    (((a0,a1,(↑(List.length a0):Int),(0:Int),PUnit.unit),PUnit.unit))
theorem zjy (tga0:Tag) (a0:List D) (a1:Int):denP Try.prog (zay []) zeM [0] ID.slices_Index_int_int [.sl tga0 a0,.int .i64 a1]=zdB (D.lentL a0) a1:=by kernel_rfl
theorem zhD (tga0:Tag) (a0:List D) (a1:Int):za8 [.sl tga0 a0,.int .i64 a1]=zdB (D.lentL a0) a1:=zjy tga0 a0 a1
def zdS:Ann:={ loops:=[] }
noncomputable def zaQ:List D→Option D:=denP Try.prog (zay [(ID.slices_Index_int_int,(.pure [0] za8))]) zdS [0] ID.slices_Contains_int_int
theorem zf2:za7 Try.prog ID.slices_Contains_int_int (.pure [0] zaQ):=zat (zaC [zhC]) zbB ⟨Try.f101,by kernel_rfl,by kernel_rfl,by kernel_rfl⟩
noncomputable def zgs:Fact Try.prog:=⟨ID.slices_Contains_int_int,(.pure [0] zaQ),zf2⟩
noncomputable def zc9 (za8:List D→Option D) (a0:List D) (a1:Int):Option D:=
  zar (za8 [D.sl Tag.lent a0,D.int IntKind.i64 a1]) fun r1=>
  asI IntKind.i64 r1 fun i2=>
  some (D.bool (decide (i2≥(0:Int))))
theorem zhE (za8:List D→Option D) (tga0:Tag) (a0:List D) (a1:Int):denP Try.prog (zay [(ID.slices_Index_int_int,(.pure [0] za8))]) zdS [0] ID.slices_Contains_int_int [.sl tga0 a0,.int .i64 a1]=zc9 za8 (D.lentL a0) a1:=by kernel_rfl
theorem zgt (tga0:Tag) (a0:List D) (a1:Int):zaQ [.sl tga0 a0,.int .i64 a1]=zc9 za8 (D.lentL a0) a1:=zhE za8 tga0 a0 a1
def zlY:Ann:={ loops:=[] }
noncomputable def zak:List D→Option D:=denP Try.prog (zay [(ID.slices_Contains_int_int,(.pure [0] zaQ))]) zlY [0] ID.geom_Check
theorem zpl:za7 Try.prog ID.geom_Check (.pure [0] zak):=zat (zaC [zgs]) zbB ⟨Try.f69,by kernel_rfl,by kernel_rfl,by kernel_rfl⟩
noncomputable def zdh:Fact Try.prog:=⟨ID.geom_Check,(.pure [0] zak),zpl⟩
noncomputable def zkm (zaQ:List D→Option D) (a0_0:Int) (a0_1:Int) (a0_2:Int):Option D:=
  asI IntKind.i64 (zyI a0_0 (D.int IntKind.i64 (0:Int)) (setD (6:Int) (D.int IntKind.i64 (4:Int)) (setD (5:Int) (D.int IntKind.i64 (3:Int)) []))) fun i1=>
  brK (i1 == (0:Int))
    (some (D.int IntKind.i64 (1:Int)))
    (brK (decide (a0_1 < i1))
      (some (D.int IntKind.i64 (1:Int)))
      (brK (decide (a0_1 > (8:Int)))
        (some (D.int IntKind.i64 (1:Int)))
        (zar (zaQ [D.sl Tag.full [D.int IntKind.i64 (1:Int),D.int IntKind.i64 (2:Int),D.int IntKind.i64 (4:Int)],D.int IntKind.i64 a0_2]) fun r2=>
        asB r2 fun b3=>
        brK (!b3)
          (some (D.int IntKind.i64 (1:Int)))
          (some (D.int IntKind.i64 (0:Int))))))
theorem zvA (zaQ:List D→Option D) (a0_0:Int) (a0_1:Int) (a0_2:Int):denP Try.prog (zay [(ID.slices_Contains_int_int,(.pure [0] zaQ))]) zlY [0] ID.geom_Check [.agg [.int .i64 a0_0,.int .i64 a0_1,.int .i64 a0_2]]=zkm zaQ a0_0 a0_1 a0_2:=by kernel_rfl
theorem zq1 (a0_0:Int) (a0_1:Int) (a0_2:Int):zak [.agg [.int .i64 a0_0,.int .i64 a0_1,.int .i64 a0_2]]=zkm zaQ a0_0 a0_1 a0_2:=zvA zaQ a0_0 a0_1 a0_2
def zkn:Ann:={ loops:=[] }
noncomputable def zbY:List D→Option D:=denP Try.prog (zay [(ID.geom_Check,(.pure [0] zak))]) zkn [0] ID.rebuild_may
theorem zor:za7 Try.prog ID.rebuild_may (.pure [0] zbY):=zat (zaC [zdh]) zbB ⟨Try.f91,by kernel_rfl,by kernel_rfl,by kernel_rfl⟩
noncomputable def zpm:Fact Try.prog:=⟨ID.rebuild_may,(.pure [0] zbY),zor⟩
noncomputable def ziU (zak:List D→Option D) (a0_0:Int) (a0_1:Int) (a0_2:Int) (a1_0:Int) (a1_1:Int) (a1_2:Int) (a2:Int):Option D:=
  zar (zak [D.agg [D.int IntKind.i64 a0_0,D.int IntKind.i64 a0_1,D.int IntKind.i64 a0_2]]) fun r1=>
  asI IntKind.i64 r1 fun i2=>
  brK (i2 == (0:Int))
    (brK (decide (a2≥(0:Int)))
      (brK (decide (a2≤(16:Int)))
        (brK (a2 == (0:Int))
          (some (D.bool true))
          (zar (zak [D.agg [D.int IntKind.i64 a1_0,D.int IntKind.i64 a1_1,D.int IntKind.i64 a1_2]]) fun r3=>
          asI IntKind.i64 r3 fun i4=>
          some (D.bool (i4 == (0:Int)))))
        (some (D.bool false)))
      (some (D.bool false)))
    (some (D.bool false))
theorem ztZ (zak:List D→Option D) (a0_0:Int) (a0_1:Int) (a0_2:Int) (a1_0:Int) (a1_1:Int) (a1_2:Int) (a2:Int):denP Try.prog (zay [(ID.geom_Check,(.pure [0] zak))]) zkn [0] ID.rebuild_may [.agg [.int .i64 a0_0,.int .i64 a0_1,.int .i64 a0_2],.agg [.int .i64 a1_0,.int .i64 a1_1,.int .i64 a1_2],.int .i64 a2]=ziU zak a0_0 a0_1 a0_2 a1_0 a1_1 a1_2 a2:=by kernel_rfl
theorem zpn (a0_0:Int) (a0_1:Int) (a0_2:Int) (a1_0:Int) (a1_1:Int) (a1_2:Int) (a2:Int):zbY [.agg [.int .i64 a0_0,.int .i64 a0_1,.int .i64 a0_2],.agg [.int .i64 a1_0,.int .i64 a1_1,.int .i64 a1_2],.int .i64 a2]=ziU zak a0_0 a0_1 a0_2 a1_0 a1_1 a1_2 a2:=ztZ zak a0_0 a0_1 a0_2 a1_0 a1_1 a1_2 a2
def zhq:Ann:={ loops:=[],ks:=[(3840,false)] }
noncomputable def zah:List D→List Tb→Option Ans:=denS Try.prog (zay []) zhq [0] ID.bench_Bench_is
theorem zlz:za7 Try.prog ID.bench_Bench_is (.st [] [0] [(3840,false)] zah):=zbc (zaC []) zbB ⟨Try.f66,by kernel_rfl,by kernel_rfl,by kernel_rfl⟩
noncomputable def zcO:Fact Try.prog:=⟨ID.bench_Bench_is,(.st [] [0] [(3840,false)] zah),zlz⟩
noncomputable def zf3 (a0:Nat) (a1:Int) (T0:Tb):Option Ans:=
  brK (decide (a1≥(0:Int)))
    (getK T0 a0 fun d1=>
    getK d1 ((3:Nat)) fun d2=>
    za4 d2 fun l3=>
    getK T0 a0 fun d4=>
    getK d4 ((3:Nat)) fun d5=>
    za4 d5 fun l6=>
    sif ((0:Nat)+List.length l3≤List.length l6) <|
    some (Ans.mk (D.bool (decide (a1 < (↑(List.length l3):Int)))) [] []))
    (some (Ans.mk (D.bool false) [] []))
theorem zpo (a0:Nat) (a1:Int) (T0:Tb):denS Try.prog (zay []) zhq [0] ID.bench_Bench_is [.h 3840 a0 0,.int .i64 a1] [T0]=zf3 a0 a1 T0:=by kernel_rfl
theorem zmt (a0:Nat) (a1:Int) (T0:Tb):zah [.h 3840 a0 0,.int .i64 a1] [T0]=zf3 a0 a1 T0:=zpo a0 a1 T0
def zgb:Ann:={ loops:=[],ks:=[(7649,false)] }
noncomputable def zaM:List D→List Tb→Option Ans:=denS Try.prog (zay []) zgb [0] ID.disk_Disk_Failed
theorem zjz:za7 Try.prog ID.disk_Disk_Failed (.st [] [0] [(7649,false)] zaM):=zbc (zaC []) zbB ⟨Try.f84,by kernel_rfl,by kernel_rfl,by kernel_rfl⟩
noncomputable def zfT:Fact Try.prog:=⟨ID.disk_Disk_Failed,(.st [] [0] [(7649,false)] zaM),zjz⟩
noncomputable def zeW (a0:Nat) (T0:Tb):Option Ans:=
  getK T0 a0 fun d1=>
  getK d1 ((1665:Nat)) fun d2=>
  asB d2 fun b3=>
  some (Ans.mk (D.bool b3) [] [])
theorem znt (a0:Nat) (T0:Tb):denS Try.prog (zay []) zgb [0] ID.disk_Disk_Failed [.h 7649 a0 0] [T0]=zeW a0 T0:=by kernel_rfl
theorem zko (a0:Nat) (T0:Tb):zaM [.h 7649 a0 0] [T0]=zeW a0 T0:=znt a0 T0
def zff:Ann:={ loops:=[],ks:=[(3840,false),(7649,false)] }
noncomputable def zaz:List D→List Tb→Option Ans:=denS Try.prog (zay [(ID.bench_Bench_is,(.st [] [0] [(3840,false)] zah)),(ID.disk_Disk_Failed,(.st [] [0] [(7649,false)] zaM))]) zff [0] ID.bench_Bench_Failed
theorem zif:za7 Try.prog ID.bench_Bench_Failed (.st [] [0] [(3840,false),(7649,false)] zaz):=zbc (zaC [zcO,zfT]) zbB ⟨Try.f41,by kernel_rfl,by kernel_rfl,by kernel_rfl⟩
noncomputable def zeX:Fact Try.prog:=⟨ID.bench_Bench_Failed,(.st [] [0] [(3840,false),(7649,false)] zaz),zif⟩
noncomputable def zee (zah:List D→List Tb→Option Ans) (zaM:List D→List Tb→Option Ans) (a0:Nat) (a1:Int) (T0:Tb) (T1:Tb):Option Ans:=
  zar (zah [D.h (3840:Nat) a0 (0:Nat),D.int IntKind.i64 a1] [T0]) fun r1=>
  nilK r1.outs <|
  nilK r1.tbs <|
  asB r1.r fun b2=>
  brK b2
    (getK T0 a0 fun d3=>
    getK d3 ((3:Nat)) fun d4=>
    za4 d4 fun l5=>
    getK T0 a0 fun d6=>
    getK d6 ((3:Nat)) fun d7=>
    za4 d7 fun l8=>
    sif ((0:Int)≤a1) <|
    sif (Int.toNat a1 < List.length l5) <|
    getK T0 a0 fun d9=>
    getK d9 ((3:Nat)) fun d10=>
    za4 d10 fun l11=>
    getK l11 ((0:Nat)+Int.toNat a1) fun d12=>
    sif (D.isAgg d12=false) <|
    sif (D.width d12=(1:Nat)) <|
    sif (D.cell d12=true) <|
    zar (zaM [d12] [T1]) fun r13=>
    nilK r13.outs <|
    nilK r13.tbs <|
    asB r13.r fun b14=>
    some (Ans.mk (D.bool b14) [] []))
    (some (Ans.mk (D.bool false) [] []))
theorem zlA (zah:List D→List Tb→Option Ans) (zaM:List D→List Tb→Option Ans) (a0:Nat) (a1:Int) (T0:Tb) (T1:Tb):denS Try.prog (zay [(ID.bench_Bench_is,(.st [] [0] [(3840,false)] zah)),(ID.disk_Disk_Failed,(.st [] [0] [(7649,false)] zaM))]) zff [0] ID.bench_Bench_Failed [.h 3840 a0 0,.int .i64 a1] [T0,T1]=zee zah zaM a0 a1 T0 T1:=by kernel_rfl
theorem ziV (a0:Nat) (a1:Int) (T0:Tb) (T1:Tb):zaz [.h 3840 a0 0,.int .i64 a1] [T0,T1]=zee zah zaM a0 a1 T0 T1:=zlA zah zaM a0 a1 T0 T1
def znu:Ann:={ loops:=[],ks:=[(3840,false),(7649,false)] }
noncomputable def za6:List D→List Tb→Option Ans:=denS Try.prog (zay [(ID.bench_Bench_Len,(.st [] [0] [(3840,false)] zau)),(ID.bench_Bench_Failed,(.st [] [0] [(3840,false),(7649,false)] zaz))]) znu [0] ID.stripe_up
theorem zq2:za7 Try.prog ID.stripe_up (.st [] [0] [(3840,false),(7649,false)] za6):=zbc (zaC [zga,zeX]) zbB ⟨Try.f70,by kernel_rfl,by kernel_rfl,by kernel_rfl⟩
noncomputable def zrE:Fact Try.prog:=⟨ID.stripe_up,(.st [] [0] [(3840,false),(7649,false)] za6),zq2⟩
noncomputable def zmu (zau:List D→List Tb→Option Ans) (zaz:List D→List Tb→Option Ans) (a0:Nat) (a1:List D) (a2:Int) (T0:Tb) (T1:Tb):Option Ans:=
  zar (zau [D.h (3840:Nat) a0 (0:Nat)] [T0]) fun r1=>
  nilK r1.outs <|
  nilK r1.tbs <|
  asI IntKind.i64 r1.r fun i2=>
  brK (decide (a2 < i2))
    (brK (decide (a2 < (↑(List.length a1):Int)))
      (sif ((0:Int)≤a2) <|
      getK a1 (Int.toNat a2) fun d3=>
      asB d3 fun b4=>
      brK b4
        (zar (zaz [D.h (3840:Nat) a0 (0:Nat),D.int IntKind.i64 a2] [T0,T1]) fun r5=>
        nilK r5.outs <|
        nilK r5.tbs <|
        asB r5.r fun b6=>
        some (Ans.mk (D.bool !b6) [] []))
        (some (Ans.mk (D.bool false) [] [])))
      (some (Ans.mk (D.bool false) [] [])))
    (some (Ans.mk (D.bool false) [] []))
theorem zwM (zau:List D→List Tb→Option Ans) (zaz:List D→List Tb→Option Ans) (tga1:Tag) (a0:Nat) (a1:List D) (a2:Int) (T0:Tb) (T1:Tb):denS Try.prog (zay [(ID.bench_Bench_Len,(.st [] [0] [(3840,false)] zau)),(ID.bench_Bench_Failed,(.st [] [0] [(3840,false),(7649,false)] zaz))]) znu [0] ID.stripe_up [.h 3840 a0 0,.sl tga1 a1,.int .i64 a2] [T0,T1]=zmu zau zaz a0 (D.lentL a1) a2 T0 T1:=by kernel_rfl
theorem zrF (tga1:Tag) (a0:Nat) (a1:List D) (a2:Int) (T0:Tb) (T1:Tb):za6 [.h 3840 a0 0,.sl tga1 a1,.int .i64 a2] [T0,T1]=zmu zau zaz a0 (D.lentL a1) a2 T0 T1:=zwM zau zaz tga1 a0 a1 a2 T0 T1
def zgU:Ann:={ loops:=[],ks:=[(3840,false)] }
noncomputable def zav:List D→List Tb→Option Ans:=denS Try.prog (zay [(ID.bench_Bench_is,(.st [] [0] [(3840,false)] zah))]) zgU [0] ID.bench_Bench_may
theorem zkp:za7 Try.prog ID.bench_Bench_may (.st [] [0] [(3840,false)] zav):=zbc (zaC [zcO]) zbB ⟨Try.f85,by kernel_rfl,by kernel_rfl,by kernel_rfl⟩
noncomputable def zef:Fact Try.prog:=⟨ID.bench_Bench_may,(.st [] [0] [(3840,false)] zav),zkp⟩
noncomputable def zfu (zah:List D→List Tb→Option Ans) (a0:Nat) (a1:Int) (T0:Tb):Option Ans:=
  zar (zah [D.h (3840:Nat) a0 (0:Nat),D.int IntKind.i64 a1] [T0]) fun r1=>
  nilK r1.outs <|
  nilK r1.tbs <|
  asB r1.r fun b2=>
  brK (!b2)
    (some (Ans.mk (D.int IntKind.i64 (1:Int)) [] []))
    (getK T0 a0 fun d3=>
    getK d3 ((2:Nat)) fun d4=>
    asB d4 fun b5=>
    brK b5
      (some (Ans.mk (D.int IntKind.i64 (6:Int)) [] []))
      (some (Ans.mk (D.int IntKind.i64 (0:Int)) [] [])))
theorem zos (zah:List D→List Tb→Option Ans) (a0:Nat) (a1:Int) (T0:Tb):denS Try.prog (zay [(ID.bench_Bench_is,(.st [] [0] [(3840,false)] zah))]) zgU [0] ID.bench_Bench_may [.h 3840 a0 0,.int .i64 a1] [T0]=zfu zah a0 a1 T0:=by kernel_rfl
theorem zlB (a0:Nat) (a1:Int) (T0:Tb):zav [.h 3840 a0 0,.int .i64 a1] [T0]=zfu zah a0 a1 T0:=zos zah a0 a1 T0
def zih:Ann:={ loops:=[],ks:=[(7649,false)] }
noncomputable def zaV:List D→List Tb→Option Ans:=denS Try.prog (zay []) zih [0] ID.disk_Disk_may
theorem zmv:za7 Try.prog ID.disk_Disk_may (.st [] [0] [(7649,false)] zaV):=zbc (zaC []) zbB ⟨Try.f118,by kernel_rfl,by kernel_rfl,by kernel_rfl⟩
noncomputable def zhr:Fact Try.prog:=⟨ID.disk_Disk_may,(.st [] [0] [(7649,false)] zaV),zmv⟩
noncomputable def zgV (a0:Nat) (a1:Int) (T0:Tb):Option Ans:=
  getK T0 a0 fun d1=>
  getK d1 ((1665:Nat)) fun d2=>
  asB d2 fun b3=>
  brK b3
    (some (Ans.mk (D.int IntKind.i64 (5:Int)) [] []))
    (brK (decide (a1 < (0:Int)))
      (some (Ans.mk (D.int IntKind.i64 (4:Int)) [] []))
      (brK (decide (a1≥(52:Int)))
        (some (Ans.mk (D.int IntKind.i64 (4:Int)) [] []))
        (some (Ans.mk (D.int IntKind.i64 (0:Int)) [] []))))
theorem zq3 (a0:Nat) (a1:Int) (T0:Tb):denS Try.prog (zay []) zih [0] ID.disk_Disk_may [.h 7649 a0 0,.int .i64 a1] [T0]=zgV a0 a1 T0:=by kernel_rfl
theorem znv (a0:Nat) (a1:Int) (T0:Tb):zaV [.h 7649 a0 0,.int .i64 a1] [T0]=zgV a0 a1 T0:=zq3 a0 a1 T0
def zea:Ann:={ loops:=[] }
noncomputable def zam:List D→Option D:=denE Try.prog (zay []) zea [1] ID.slices_Clone_byte_byte
theorem zgu:za7 Try.prog ID.slices_Clone_byte_byte (.pure [1] zam):=zsx (zaC []) zbB ⟨Try.f109,by kernel_rfl,by kernel_rfl,by kernel_rfl⟩
noncomputable def zdT:Fact Try.prog:=⟨ID.slices_Clone_byte_byte,(.pure [1] zam),zgu⟩
noncomputable def zdi (a0:D) (b0:List D):Option D:=
  sif (List.length (a0::b0)≤(4294967296:Nat)) <|
  sif (zeb (1:Nat) (a0::b0)=true) <|
  sif (List.length (a0::b0)=List.length (a0::b0)) <|
  sif (List.all (a0::b0) D.free=true) <|
  some (D.sl Tag.own (a0::b0))
theorem zii (tga0:Tag) (a0:D) (b0:List D):denE Try.prog (zay []) zea [1] ID.slices_Clone_byte_byte [.sl tga0 (a0::b0)]=zdi (D.lent a0) (D.lentL b0):=by kernel_rfl
theorem zgW (tga0:Tag) (a0:D) (b0:List D):zam [.sl tga0 (a0::b0)]=zdi (D.lent a0) (D.lentL b0):=zii tga0 a0 b0
theorem zgv (tg:Tag):zam [.sl tg []]=some (.sl .own []):=(zo9 (some (.sl .own [])))
def zhs:Ann:={ loops:=[(1,[.dead,.val (.cell (.int .i64)),.dead,.dead,.dead,.dead,.dead,.box true [(.arr 32)],.dead,.dead,.dead,.dead,.dead,.dead,.dead,.dead,.dead,.dead,.dead,.dead,.dead,.dead,.dead,.dead,.dead,.view 7649 1664,.val (.cell (.int .i64)),.val (.cell (.int .i64))])],ks:=[(7649,false)] }
noncomputable def zbG:List D→List Tb→Option Ans:=denS Try.prog (zay [(ID.disk_Disk_may,(.st [] [0] [(7649,false)] zaV)),(ID.slices_Clone_byte_byte,(.pure [1] zam))]) zhs [1,0] ID.disk_Disk_Read
theorem zlC:za7 Try.prog ID.disk_Disk_Read (.st [] [1,0] [(7649,false)] zbG):=zbc (zaC [zhr,zdT]) zbB ⟨Try.f86,by kernel_rfl,by kernel_rfl,by kernel_rfl⟩
noncomputable def zmw:Fact Try.prog:=⟨ID.disk_Disk_Read,(.st [] [1,0] [(7649,false)] zbG),zlC⟩
noncomputable def zf4 (zaV:List D→List Tb→Option Ans) (zam:List D→Option D) (a0:Nat) (a1:Int) (T0:Tb):Option Ans:=
  zar (zaV [D.h (7649:Nat) a0 (0:Nat),D.int IntKind.i64 a1] [T0]) fun r1=>
  nilK r1.outs <|
  nilK r1.tbs <|
  asI IntKind.i64 r1.r fun i2=>
  brK (i2 != (0:Int))
    (some (Ans.mk (D.tup [D.sl Tag.own [],D.int IntKind.i64 i2]) [] []))
    (sif ((0:Int)≤a1) <|
    sif (Int.toNat a1 < (52:Nat)) <|
    getK T0 a0 fun d3=>
    sif ((0:Nat)+Int.toNat a1*(32:Nat)+(32:Nat)≤List.length d3) <|
    sif (zhy (List.take (32:Nat) (List.drop ((0:Nat)+Int.toNat a1*(32:Nat)) d3))=true) <|
    sif (List.length (List.take (32:Nat) (List.drop ((0:Nat)+Int.toNat a1*(32:Nat)) d3))=(32:Nat)) <|
    sif (List.length (List.take (32:Nat) (List.drop ((0:Nat)+Int.toNat a1*(32:Nat)) d3))=(32:Nat)) <|
    getK T0 a0 fun d4=>
    getK d4 ((1664:Nat)) fun d5=>
    za4 d5 fun l6=>
    getK T0 a0 fun d7=>
    getK d7 ((1664:Nat)) fun d8=>
    za4 d8 fun l9=>
    sif ((0:Nat)+List.length l6≤List.length l9) <|
    zaw ([Lf.arr (32)]) (List.take (32:Nat) (List.drop ((0:Nat)+Int.toNat a1*(32:Nat)) d3)) fun c10=>
    zcd (α:=(Int×(List D×PUnit)×(Nat×Nat×Nat)×Int×Int×PUnit)×List (List D)×PUnit) (fun again11 ((i12,((l13,_),((x14,(x15,x16)),(i17,(i18,_))))),(U19,_))=>
      brK (decide (i18 < i17))
        (getK U19 x14 fun d20=>
        getK d20 ((1664:Nat)) fun d21=>
        za4 d21 fun l22=>
        sif ((0:Int)≤i18) <|
        sif (Int.toNat i18 < x16) <|
        getK U19 x14 fun d23=>
        getK d23 ((1664:Nat)) fun d24=>
        za4 d24 fun l25=>
        getK l25 (x15+Int.toNat i18) fun d26=>
        asAgg d26 fun cs27=>
        zaw ([Lf.int IntKind.i64,Lf.arr (32)]) cs27 fun c28=>
        sif (D.width (D.agg ([D.int IntKind.i64 c28.fst]++(c28.snd.fst++[])))=(33:Nat)) <|
        sif (List.length ([D.int IntKind.i64 c28.fst]++(c28.snd.fst++[]))=(33:Nat)) <|
        brK (c28.fst == i12)
          (sif ((33:Nat)≤List.length ([D.int IntKind.i64 c28.fst]++(c28.snd.fst++[]))) <|
          sif (List.length (List.take (32:Nat) (List.drop (1:Nat) ([D.int IntKind.i64 c28.fst]++(c28.snd.fst++[]))))=(32:Nat)) <|
          sif (List.length (List.take (32:Nat) (List.drop (1:Nat) ([D.int IntKind.i64 c28.fst]++(c28.snd.fst++[]))))=(32:Nat)) <|
          sif ((32:Nat)≤List.length (l13++[])) <|
          letN (IntKind.wrap IntKind.i64 (i18+(1:Int))) fun n29=>
          zaw ([Lf.arr (32)]) (spl (0:Nat) (32:Nat) (l13++[]) (List.take (32:Nat) (List.drop (1:Nat) ([D.int IntKind.i64 c28.fst]++(c28.snd.fst++[]))))) fun c30=>
          again11 (((i12,c30,(x14,x15,x16),i17,n29,PUnit.unit),U19,PUnit.unit)))
          (letN (IntKind.wrap IntKind.i64 (i18+(1:Int))) fun n31=>
          zaw ([Lf.arr (32)]) (l13++[]) fun c32=>
          again11 (((i12,c32,(x14,x15,x16),i17,n31,PUnit.unit),U19,PUnit.unit))))
        (sif ((32:Nat)≤List.length (l13++[])) <|
        sif ((32:Nat)≤List.length (l13++[])) <|
        zar (zam [D.sl Tag.lent (cut (0:Nat) (32:Nat) (l13++[]))]) fun r33=>
        za4 r33 fun l34=>
        sif (List.length l34=List.length l34) <|
        sif (List.all l34 D.free=true) <|
        some (Ans.mk (D.tup [D.sl Tag.own l34,D.int IntKind.i64 (0:Int)]) [] [])))
      (((a1,c10,(a0,(0:Nat),List.length l6),(↑(List.length l6):Int),(0:Int),PUnit.unit),T0,PUnit.unit)))
theorem zpp (zaV:List D→List Tb→Option Ans) (zam:List D→Option D) (a0:Nat) (a1:Int) (T0:Tb):denS Try.prog (zay [(ID.disk_Disk_may,(.st [] [0] [(7649,false)] zaV)),(ID.slices_Clone_byte_byte,(.pure [1] zam))]) zhs [1,0] ID.disk_Disk_Read [.h 7649 a0 0,.int .i64 a1] [T0]=zf4 zaV zam a0 a1 T0:=by kernel_rfl
theorem zmx (a0:Nat) (a1:Int) (T0:Tb):zbG [.h 7649 a0 0,.int .i64 a1] [T0]=zf4 zaV zam a0 a1 T0:=zpp zaV zam a0 a1 T0
def zgc:Ann:={ loops:=[],ks:=[(3840,false),(7649,false)] }
noncomputable def zax:List D→List Tb→Option Ans:=denS Try.prog (zay [(ID.bench_Bench_may,(.st [] [0] [(3840,false)] zav)),(ID.disk_Disk_Read,(.st [] [1,0] [(7649,false)] zbG))]) zgc [1,0] ID.bench_Bench_Read
theorem zjA:za7 Try.prog ID.bench_Bench_Read (.st [] [1,0] [(3840,false),(7649,false)] zax):=zbc (zaC [zef,zmw]) zbB ⟨Try.f42,by kernel_rfl,by kernel_rfl,by kernel_rfl⟩
noncomputable def zfU:Fact Try.prog:=⟨ID.bench_Bench_Read,(.st [] [1,0] [(3840,false),(7649,false)] zax),zjA⟩
noncomputable def zeY (zav:List D→List Tb→Option Ans) (zbG:List D→List Tb→Option Ans) (a0:Nat) (a1:Int) (a2:Int) (T0:Tb) (T1:Tb):Option Ans:=
  zar (zav [D.h (3840:Nat) a0 (0:Nat),D.int IntKind.i64 a1] [T0]) fun r1=>
  nilK r1.outs <|
  nilK r1.tbs <|
  asI IntKind.i64 r1.r fun i2=>
  brK (i2 != (0:Int))
    (some (Ans.mk (D.tup [D.sl Tag.own [],D.int IntKind.i64 i2]) [] []))
    (getK T0 a0 fun d3=>
    getK d3 ((3:Nat)) fun d4=>
    za4 d4 fun l5=>
    getK T0 a0 fun d6=>
    getK d6 ((3:Nat)) fun d7=>
    za4 d7 fun l8=>
    sif ((0:Int)≤a1) <|
    sif (Int.toNat a1 < List.length l5) <|
    getK T0 a0 fun d9=>
    getK d9 ((3:Nat)) fun d10=>
    za4 d10 fun l11=>
    getK l11 ((0:Nat)+Int.toNat a1) fun d12=>
    sif (D.isAgg d12=false) <|
    sif (D.width d12=(1:Nat)) <|
    sif (D.cell d12=true) <|
    zar (zbG [d12,D.int IntKind.i64 a2] [T1]) fun r13=>
    nilK r13.outs <|
    nilK r13.tbs <|
    zd5 r13.r fun ts14=>
    zaw ([Lf.any,Lf.any]) ts14 fun c15=>
    za4 c15.fst fun l16=>
    asI IntKind.i64 c15.snd.fst fun i17=>
    sif (List.length l16=List.length l16) <|
    sif (List.all l16 D.free=true) <|
    some (Ans.mk (D.tup [D.sl Tag.own l16,D.int IntKind.i64 i17]) [] []))
theorem znw (zav:List D→List Tb→Option Ans) (zbG:List D→List Tb→Option Ans) (a0:Nat) (a1:Int) (a2:Int) (T0:Tb) (T1:Tb):denS Try.prog (zay [(ID.bench_Bench_may,(.st [] [0] [(3840,false)] zav)),(ID.disk_Disk_Read,(.st [] [1,0] [(7649,false)] zbG))]) zgc [1,0] ID.bench_Bench_Read [.h 3840 a0 0,.int .i64 a1,.int .i64 a2] [T0,T1]=zeY zav zbG a0 a1 a2 T0 T1:=by kernel_rfl
theorem zkq (a0:Nat) (a1:Int) (a2:Int) (T0:Tb) (T1:Tb):zax [.h 3840 a0 0,.int .i64 a1,.int .i64 a2] [T0,T1]=zeY zav zbG a0 a1 a2 T0 T1:=znw zav zbG a0 a1 a2 T0 T1
def zsI:Ann:={ loops:=[] }
noncomputable def zcy:List D→Option D:=denP Try.prog (zay [(ID.geom_Check,(.pure [0] zak))]) zsI [0] ID.row_in
theorem zvB:za7 Try.prog ID.row_in (.pure [0] zcy):=zat (zaC [zdh]) zbB ⟨Try.f102,by kernel_rfl,by kernel_rfl,by kernel_rfl⟩
noncomputable def zq4:Fact Try.prog:=⟨ID.row_in,(.pure [0] zcy),zvB⟩
noncomputable def zt0 (zak:List D→Option D) (a0_0:Int) (a0_1:Int) (a0_2:Int) (a1:Int):Option D:=
  zar (zak [D.agg [D.int IntKind.i64 a0_0,D.int IntKind.i64 a0_1,D.int IntKind.i64 a0_2]]) fun r1=>
  asI IntKind.i64 r1 fun i2=>
  brK (i2 == (0:Int))
    (brK (decide (a1≥(0:Int)))
      (some (D.bool (decide (a1 < (16:Int)))))
      (some (D.bool false)))
    (some (D.bool false))
theorem zCm (zak:List D→Option D) (a0_0:Int) (a0_1:Int) (a0_2:Int) (a1:Int):denP Try.prog (zay [(ID.geom_Check,(.pure [0] zak))]) zsI [0] ID.row_in [.agg [.int .i64 a0_0,.int .i64 a0_1,.int .i64 a0_2],.int .i64 a1]=zt0 zak a0_0 a0_1 a0_2 a1:=by kernel_rfl
theorem zwN (a0_0:Int) (a0_1:Int) (a0_2:Int) (a1:Int):zcy [.agg [.int .i64 a0_0,.int .i64 a0_1,.int .i64 a0_2],.int .i64 a1]=zt0 zak a0_0 a0_1 a0_2 a1:=zCm zak a0_0 a0_1 a0_2 a1
def zkr:Ann:={ loops:=[] }
noncomputable def zbf:List D→Option D:=denP Try.prog (zay [(ID.geom_Check,(.pure [0] zak))]) zkr [0] ID.geom_Budget
theorem zot:za7 Try.prog ID.geom_Budget (.pure [0] zbf):=zat (zaC [zdh]) zbB ⟨Try.f127,by kernel_rfl,by kernel_rfl,by kernel_rfl⟩
noncomputable def zjk:Fact Try.prog:=⟨ID.geom_Budget,(.pure [0] zbf),zot⟩
noncomputable def ziW (zak:List D→Option D) (a0_0:Int) (a0_1:Int) (a0_2:Int):Option D:=
  zar (zak [D.agg [D.int IntKind.i64 a0_0,D.int IntKind.i64 a0_1,D.int IntKind.i64 a0_2]]) fun r1=>
  asI IntKind.i64 r1 fun i2=>
  brK (i2 != (0:Int))
    (some (D.int IntKind.i64 (0:Int)))
    (letN (IntKind.wrap IntKind.i64 (a0_0 - (4:Int))) fun n3=>
    some (D.int IntKind.i64 n3))
theorem zt1 (zak:List D→Option D) (a0_0:Int) (a0_1:Int) (a0_2:Int):denP Try.prog (zay [(ID.geom_Check,(.pure [0] zak))]) zkr [0] ID.geom_Budget [.agg [.int .i64 a0_0,.int .i64 a0_1,.int .i64 a0_2]]=ziW zak a0_0 a0_1 a0_2:=by kernel_rfl
theorem zpq (a0_0:Int) (a0_1:Int) (a0_2:Int):zbf [.agg [.int .i64 a0_0,.int .i64 a0_1,.int .i64 a0_2]]=ziW zak a0_0 a0_1 a0_2:=zt1 zak a0_0 a0_1 a0_2
def zlZ:Ann:={ loops:=[] }
noncomputable def zaS:List D→Option D:=denP Try.prog (zay [(ID.geom_Check,(.pure [0] zak)),(ID.geom_Budget,(.pure [0] zbf))]) zlZ [0] ID.geom_Width
theorem zpr:za7 Try.prog ID.geom_Width (.pure [0] zaS):=zat (zaC [zdh,zjk]) zbB ⟨Try.f103,by kernel_rfl,by kernel_rfl,by kernel_rfl⟩
noncomputable def zgX:Fact Try.prog:=⟨ID.geom_Width,(.pure [0] zaS),zpr⟩
noncomputable def zks (zak:List D→Option D) (zbf:List D→Option D) (a0_0:Int) (a0_1:Int) (a0_2:Int):Option D:=
  zar (zak [D.agg [D.int IntKind.i64 a0_0,D.int IntKind.i64 a0_1,D.int IntKind.i64 a0_2]]) fun r1=>
  asI IntKind.i64 r1 fun i2=>
  brK (i2 != (0:Int))
    (some (D.int IntKind.i64 (0:Int)))
    (zar (zbf [D.agg [D.int IntKind.i64 a0_0,D.int IntKind.i64 a0_1,D.int IntKind.i64 a0_2]]) fun r3=>
    asI IntKind.i64 r3 fun i4=>
    letN (IntKind.wrap IntKind.i64 (a0_1 - i4)) fun n5=>
    some (D.int IntKind.i64 n5))
theorem zvC (zak:List D→Option D) (zbf:List D→Option D) (a0_0:Int) (a0_1:Int) (a0_2:Int):denP Try.prog (zay [(ID.geom_Check,(.pure [0] zak)),(ID.geom_Budget,(.pure [0] zbf))]) zlZ [0] ID.geom_Width [.agg [.int .i64 a0_0,.int .i64 a0_1,.int .i64 a0_2]]=zks zak zbf a0_0 a0_1 a0_2:=by kernel_rfl
theorem zq5 (a0_0:Int) (a0_1:Int) (a0_2:Int):zaS [.agg [.int .i64 a0_0,.int .i64 a0_1,.int .i64 a0_2]]=zks zak zbf a0_0 a0_1 a0_2:=zvC zak zbf a0_0 a0_1 a0_2
def zpd:Ann:={ loops:=[] }
noncomputable def zbS:List D→Option D:=denP Try.prog (zay [(ID.geom_Check,(.pure [0] zak))]) zpd [0] ID.place_in
theorem zrG:za7 Try.prog ID.place_in (.pure [0] zbS):=zat (zaC [zdh]) zbB ⟨Try.f106,by kernel_rfl,by kernel_rfl,by kernel_rfl⟩
noncomputable def znx:Fact Try.prog:=⟨ID.place_in,(.pure [0] zbS),zrG⟩
noncomputable def zou (zak:List D→Option D) (a0_0:Int) (a0_1:Int) (a0_2:Int) (a1:Int):Option D:=
  zar (zak [D.agg [D.int IntKind.i64 a0_0,D.int IntKind.i64 a0_1,D.int IntKind.i64 a0_2]]) fun r1=>
  asI IntKind.i64 r1 fun i2=>
  brK (i2 == (0:Int))
    (brK (decide (a1≥(0:Int)))
      (some (D.bool (decide (a1 < (16:Int)))))
      (some (D.bool false)))
    (some (D.bool false))
theorem zyX (zak:List D→Option D) (a0_0:Int) (a0_1:Int) (a0_2:Int) (a1:Int):denP Try.prog (zay [(ID.geom_Check,(.pure [0] zak))]) zpd [0] ID.place_in [.agg [.int .i64 a0_0,.int .i64 a0_1,.int .i64 a0_2],.int .i64 a1]=zou zak a0_0 a0_1 a0_2 a1:=by kernel_rfl
theorem zt2 (a0_0:Int) (a0_1:Int) (a0_2:Int) (a1:Int):zbS [.agg [.int .i64 a0_0,.int .i64 a0_1,.int .i64 a0_2],.int .i64 a1]=zou zak a0_0 a0_1 a0_2 a1:=zyX zak a0_0 a0_1 a0_2 a1
def zjl:Ann:={ loops:=[] }
noncomputable def zaJ:List D→Option D:=denP Try.prog (zay [(ID.place_in,(.pure [0] zbS))]) zjl [0,0] ID.place_Parity
theorem zny:za7 Try.prog ID.place_Parity (.pure [0,0] zaJ):=zat (zaC [znx]) zbB ⟨Try.f88,by kernel_rfl,by kernel_rfl,by kernel_rfl⟩
noncomputable def zfv:Fact Try.prog:=⟨ID.place_Parity,(.pure [0,0] zaJ),zny⟩
noncomputable def zhF (zbS:List D→Option D) (a0_0:Int) (a0_1:Int) (a0_2:Int) (a1:Int):Option D:=
  zar (zbS [D.agg [D.int IntKind.i64 a0_0,D.int IntKind.i64 a0_1,D.int IntKind.i64 a0_2],D.int IntKind.i64 a1]) fun r1=>
  asB r1 fun b2=>
  brK (!b2)
    (some (D.tup [D.int IntKind.i64 (-1:Int),D.int IntKind.i64 (-1:Int)]))
    (letN (IntKind.wrap IntKind.i64 (a0_1 - (1:Int))) fun n3=>
    sif (a0_2≠(0:Int)) <|
    letN (IntKind.wrap IntKind.i64 (Int.tdiv a1 a0_2)) fun n4=>
    sif (a0_1≠(0:Int)) <|
    letN (Int.tmod n4 a0_1) fun n5=>
    letN (IntKind.wrap IntKind.i64 (n3 - n5)) fun n6=>
    brK (a0_0 == (5:Int))
      (some (D.tup [D.int IntKind.i64 n6,D.int IntKind.i64 (-1:Int)]))
      (letN (IntKind.wrap IntKind.i64 (n6+(1:Int))) fun n7=>
      sif (a0_1≠(0:Int)) <|
      letN (Int.tmod n7 a0_1) fun n8=>
      some (D.tup [D.int IntKind.i64 n6,D.int IntKind.i64 n8])))
theorem zrH (zbS:List D→Option D) (a0_0:Int) (a0_1:Int) (a0_2:Int) (a1:Int):denP Try.prog (zay [(ID.place_in,(.pure [0] zbS))]) zjl [0,0] ID.place_Parity [.agg [.int .i64 a0_0,.int .i64 a0_1,.int .i64 a0_2],.int .i64 a1]=zhF zbS a0_0 a0_1 a0_2 a1:=by kernel_rfl
theorem zov (a0_0:Int) (a0_1:Int) (a0_2:Int) (a1:Int):zaJ [.agg [.int .i64 a0_0,.int .i64 a0_1,.int .i64 a0_2],.int .i64 a1]=zhF zbS a0_0 a0_1 a0_2 a1:=zrH zbS a0_0 a0_1 a0_2 a1
def zl0:Ann:={ loops:=[] }
noncomputable def zbm:List D→Option D:=denP Try.prog (zay [(ID.place_in,(.pure [0] zbS)),(ID.geom_Width,(.pure [0] zaS)),(ID.place_Parity,(.pure [0,0] zaJ)),(ID.geom_Budget,(.pure [0] zbf))]) zl0 [0] ID.place_Disk
theorem zps:za7 Try.prog ID.place_Disk (.pure [0] zbm):=zat (zaC [znx,zgX,zfv,zjk]) zbB ⟨Try.f104,by kernel_rfl,by kernel_rfl,by kernel_rfl⟩
noncomputable def zkt:Fact Try.prog:=⟨ID.place_Disk,(.pure [0] zbm),zps⟩
noncomputable def zku (zbS:List D→Option D) (zaS:List D→Option D) (zaJ:List D→Option D) (zbf:List D→Option D) (a0_0:Int) (a0_1:Int) (a0_2:Int) (a1:Int) (a2:Int):Option D:=
  zar (zbS [D.agg [D.int IntKind.i64 a0_0,D.int IntKind.i64 a0_1,D.int IntKind.i64 a0_2],D.int IntKind.i64 a1]) fun r1=>
  asB r1 fun b2=>
  brK (!b2)
    (some (D.int IntKind.i64 (-1:Int)))
    (brK (decide (a2 < (0:Int)))
      (some (D.int IntKind.i64 (-1:Int)))
      (zar (zaS [D.agg [D.int IntKind.i64 a0_0,D.int IntKind.i64 a0_1,D.int IntKind.i64 a0_2]]) fun r3=>
      asI IntKind.i64 r3 fun i4=>
      brK (decide (a2≥i4))
        (some (D.int IntKind.i64 (-1:Int)))
        (zar (zaJ [D.agg [D.int IntKind.i64 a0_0,D.int IntKind.i64 a0_1,D.int IntKind.i64 a0_2],D.int IntKind.i64 a1]) fun r5=>
        zd5 r5 fun ts6=>
        zaw ([Lf.any,Lf.any]) ts6 fun c7=>
        asI IntKind.i64 c7.fst fun i8=>
        asI IntKind.i64 c7.snd.fst fun i9=>
        zar (zbf [D.agg [D.int IntKind.i64 a0_0,D.int IntKind.i64 a0_1,D.int IntKind.i64 a0_2]]) fun r10=>
        asI IntKind.i64 r10 fun i11=>
        letN (IntKind.wrap IntKind.i64 (i8+i11)) fun n12=>
        letN (IntKind.wrap IntKind.i64 (n12+a2)) fun n13=>
        sif (a0_1≠(0:Int)) <|
        letN (Int.tmod n13 a0_1) fun n14=>
        some (D.int IntKind.i64 n14))))
theorem zvD (zbS:List D→Option D) (zaS:List D→Option D) (zaJ:List D→Option D) (zbf:List D→Option D) (a0_0:Int) (a0_1:Int) (a0_2:Int) (a1:Int) (a2:Int):denP Try.prog (zay [(ID.place_in,(.pure [0] zbS)),(ID.geom_Width,(.pure [0] zaS)),(ID.place_Parity,(.pure [0,0] zaJ)),(ID.geom_Budget,(.pure [0] zbf))]) zl0 [0] ID.place_Disk [.agg [.int .i64 a0_0,.int .i64 a0_1,.int .i64 a0_2],.int .i64 a1,.int .i64 a2]=zku zbS zaS zaJ zbf a0_0 a0_1 a0_2 a1 a2:=by kernel_rfl
theorem zq6 (a0_0:Int) (a0_1:Int) (a0_2:Int) (a1:Int) (a2:Int):zbm [.agg [.int .i64 a0_0,.int .i64 a0_1,.int .i64 a0_2],.int .i64 a1,.int .i64 a2]=zku zbS zaS zaJ zbf a0_0 a0_1 a0_2 a1 a2:=zvD zbS zaS zaJ zbf a0_0 a0_1 a0_2 a1 a2
def zij:Ann:={ loops:=[(0,[.dead,.dead,.dead,.own 1,.dead,.dead,.val (.cell .lent),.val (.cell (.int .i64)),.val (.cell (.int .i64))])] }
noncomputable def zbC:List D→Option D:=denP Try.prog (zay []) zij [1] ID.erase_Missing
theorem zmy:za7 Try.prog ID.erase_Missing (.pure [1] zbC):=zat (zaC []) zbB ⟨Try.f128,by kernel_rfl,by kernel_rfl,by kernel_rfl⟩
noncomputable def znz:Fact Try.prog:=⟨ID.erase_Missing,(.pure [1] zbC),zmy⟩
noncomputable def zgY (a0:List D):Option D:=
  zcd (α:=(List D×List D×Int×Int×PUnit)×PUnit) (fun again1 ((l2,(l3,(i4,(i5,_)))),_)=>
    brK (decide (i5 < i4))
      (sif ((0:Int)≤i5) <|
      getK l3 (Int.toNat i5) fun d6=>
      asSl d6 fun t7 l8=>
      brK ((↑(List.length l8):Int) == (0:Int))
        (sif (List.length l2+(1:Nat)≤(4294967296:Nat)) <|
        sif (List.length l2=List.length l2) <|
        letN (IntKind.wrap IntKind.i64 (i5+(1:Int))) fun n9=>
        sif (List.length l2+(1:Nat)=List.length (l2++[D.int IntKind.i64 i5])) <|
        again1 (((l2++[D.int IntKind.i64 i5],l3,i4,n9,PUnit.unit),PUnit.unit)))
        (letN (IntKind.wrap IntKind.i64 (i5+(1:Int))) fun n10=>
        sif (List.length l2=List.length l2) <|
        again1 (((l2,l3,i4,n10,PUnit.unit),PUnit.unit))))
      (sif (List.length l2=List.length l2) <|
      sif (List.all l2 D.free=true) <|
      some (D.sl Tag.own l2)))
    ((([],a0,(↑(List.length a0):Int),(0:Int),PUnit.unit),PUnit.unit))
theorem zq7 (tga0:Tag) (a0:List D):denP Try.prog (zay []) zij [1] ID.erase_Missing [.sl tga0 a0]=zgY (D.lentL a0):=by kernel_rfl
theorem znA (tga0:Tag) (a0:List D):zbC [.sl tga0 a0]=zgY (D.lentL a0):=zq7 tga0 a0
def zjm:Ann:={ loops:=[],hints:=[(1,.at1 (.int .i64))] }
noncomputable def zaE:List D→Option D:=denP Try.prog (zay []) zjm [0] ID.erase_fits_1
theorem znB:za7 Try.prog ID.erase_fits_1 (.pure [0] zaE):=zat (zaC []) zbB ⟨Try.f140,by kernel_rfl,by kernel_rfl,by kernel_rfl⟩
noncomputable def zik:Fact Try.prog:=⟨ID.erase_fits_1,(.pure [0] zaE),znB⟩
noncomputable def zhG (a0:List D) (c0:Int):Option D:=
  brK (decide ((↑(List.length a0):Int) > (0:Int)))
    (some (D.bool ((↑(List.length a0):Int) != c0)))
    (some (D.bool false))
theorem zrI (tga0:Tag) (a0:List D) (c0:Int):denP Try.prog (zay []) zjm [0] ID.erase_fits_1 [.sl tga0 a0,.at_ (.int .i64 c0)]=zhG (D.lentL a0) c0:=by kernel_rfl
theorem zow (tga0:Tag) (a0:List D) (c0:Int):zaE [.sl tga0 a0,.at_ (.int .i64 c0)]=zhG (D.lentL a0) c0:=zrI tga0 a0 c0
def zil:Ann:={ loops:=[] }
noncomputable def zap:List D→Option D:=denP Try.prog (zay []) zil [0] ID.row_sectors_1
theorem zmz:za7 Try.prog ID.row_sectors_1 (.pure [0] zap):=zat (zaC []) zbB ⟨Try.f135,by kernel_rfl,by kernel_rfl,by kernel_rfl⟩
noncomputable def zeZ:Fact Try.prog:=⟨ID.row_sectors_1,(.pure [0] zap),zmz⟩
noncomputable def zgZ (a0:List D):Option D:=
  some (D.bool ((↑(List.length a0):Int) != (32:Int)))
theorem zq8 (tga0:Tag) (a0:List D):denP Try.prog (zay []) zil [0] ID.row_sectors_1 [.sl tga0 a0]=zgZ (D.lentL a0):=by kernel_rfl
theorem znC (tga0:Tag) (a0:List D):zap [.sl tga0 a0]=zgZ (D.lentL a0):=zq8 tga0 a0
def zcu:List (Nat×Ann):=[(140,{ loops:=[(0,[.val (.cell .lent),.val (.fn1 (140:FuncId) (.int .i64)),.dead,.dead,.dead,.dead,.dead,.val (.cell (.int .i64)),.val (.cell (.int .i64))])] }),(135,{ loops:=[(0,[.val (.cell .lent),.fnc 135,.dead,.dead,.dead,.dead,.dead,.val (.cell (.int .i64)),.val (.cell (.int .i64))])] })]
noncomputable def zai:List D→Option D:=denA Try.prog (zay [(ID.erase_fits_1,(.pure [0] zaE)),(ID.row_sectors_1,(.pure [0] zap))]) zcu [0] ID.slices_IndexFunc_byte_byte
theorem zfd:za7 Try.prog ID.slices_IndexFunc_byte_byte (.pure [0] zai):=zsy (zaC [zik,zeZ]) zbB ⟨Try.f143,by kernel_rfl,by kernel_rfl,by kernel_rfl⟩
noncomputable def zfw:Fact Try.prog:=⟨ID.slices_IndexFunc_byte_byte,(.pure [0] zai),zfd⟩
noncomputable def zcc (zaE:List D→Option D) (zap:List D→Option D) (a0:List D) (c0:Int):Option D:=
  zcd (α:=(List D×Int×Int×Int×PUnit)×PUnit) (fun again1 ((l2,(i3,(i4,(i5,_)))),_)=>
    brK (decide (i5 < i4))
      (sif ((0:Int)≤i5) <|
      getK l2 (Int.toNat i5) fun d6=>
      asSl d6 fun t7 l8=>
      zar (zaE [D.sl t7 l8,D.at_ (D.int IntKind.i64 i3)]) fun r9=>
      asB r9 fun b10=>
      brK b10
        (some (D.int IntKind.i64 i5))
        (letN (IntKind.wrap IntKind.i64 (i5+(1:Int))) fun n11=>
        again1 (((l2,i3,i4,n11,PUnit.unit),PUnit.unit))))
      (some (D.int IntKind.i64 (-1:Int))))
    (((a0,c0,(↑(List.length a0):Int),(0:Int),PUnit.unit),PUnit.unit))
theorem zeP (zaE:List D→Option D) (zap:List D→Option D) (tga0:Tag) (a0:List D) (c0:Int):denA Try.prog (zay [(ID.erase_fits_1,(.pure [0] zaE)),(ID.row_sectors_1,(.pure [0] zap))]) zcu [0] ID.slices_IndexFunc_byte_byte [.sl tga0 a0,.fn 140 [] [.at_ (.int .i64 c0)]]=zcc zaE zap (D.lentL a0) c0:=by kernel_rfl
theorem zeg (tga0:Tag) (a0:List D) (c0:Int):zai [.sl tga0 a0,.fn 140 [] [.at_ (.int .i64 c0)]]=zcc zaE zap (D.lentL a0) c0:=zeP zaE zap tga0 a0 c0
noncomputable def zb2 (zaE:List D→Option D) (zap:List D→Option D) (a0:List D):Option D:=
  zcd (α:=(List D×Int×Int×PUnit)×PUnit) (fun again1 ((l2,(i3,(i4,_))),_)=>
    brK (decide (i4 < i3))
      (sif ((0:Int)≤i4) <|
      getK l2 (Int.toNat i4) fun d5=>
      asSl d5 fun t6 l7=>
      zar (zap [D.sl t6 l7]) fun r8=>
      asB r8 fun b9=>
      brK b9
        (some (D.int IntKind.i64 i4))
        (letN (IntKind.wrap IntKind.i64 (i4+(1:Int))) fun n10=>
        again1 (((l2,i3,n10,PUnit.unit),PUnit.unit))))
      (some (D.int IntKind.i64 (-1:Int))))
    (((a0,(↑(List.length a0):Int),(0:Int),PUnit.unit),PUnit.unit))
theorem zeh (zaE:List D→Option D) (zap:List D→Option D) (tga0:Tag) (a0:List D):denA Try.prog (zay [(ID.erase_fits_1,(.pure [0] zaE)),(ID.row_sectors_1,(.pure [0] zap))]) zcu [0] ID.slices_IndexFunc_byte_byte [.sl tga0 a0,.fn 135 [] []]=zb2 zaE zap (D.lentL a0):=by kernel_rfl
theorem zdH (tga0:Tag) (a0:List D):zai [.sl tga0 a0,.fn 135 [] []]=zb2 zaE zap (D.lentL a0):=zeh zaE zap tga0 a0
def zci:Ann:={ loops:=[] }
noncomputable def zae:List D→Option D:=denP Try.prog (zay [(ID.slices_IndexFunc_byte_byte,(.pure [0] zai)),(ID.erase_fits_1,(.pure [0] zaE)),(ID.row_sectors_1,(.pure [0] zap))]) zci [0] ID.slices_ContainsFunc_byte_byte
theorem zeA:za7 Try.prog ID.slices_ContainsFunc_byte_byte (.pure [0] zae):=zat (zaC [zfw,zik,zeZ]) zbB ⟨Try.f134,by kernel_rfl,by kernel_rfl,by kernel_rfl⟩
noncomputable def zcW:Fact Try.prog:=⟨ID.slices_ContainsFunc_byte_byte,(.pure [0] zae),zeA⟩
noncomputable def zb3 (zai:List D→Option D) (zaE:List D→Option D) (zap:List D→Option D) (a0:List D) (c0:Int):Option D:=
  zar (zai [D.sl Tag.lent a0,D.fn (140:FuncId) [] [D.at_ (D.int IntKind.i64 c0)]]) fun r1=>
  asI IntKind.i64 r1 fun i2=>
  some (D.bool (decide (i2≥(0:Int))))
theorem zei (zai:List D→Option D) (zaE:List D→Option D) (zap:List D→Option D) (tga0:Tag) (a0:List D) (c0:Int):denP Try.prog (zay [(ID.slices_IndexFunc_byte_byte,(.pure [0] zai)),(ID.erase_fits_1,(.pure [0] zaE)),(ID.row_sectors_1,(.pure [0] zap))]) zci [0] ID.slices_ContainsFunc_byte_byte [.sl tga0 a0,.fn 140 [] [.at_ (.int .i64 c0)]]=zb3 zai zaE zap (D.lentL a0) c0:=by kernel_rfl
theorem zdI (tga0:Tag) (a0:List D) (c0:Int):zae [.sl tga0 a0,.fn 140 [] [.at_ (.int .i64 c0)]]=zb3 zai zaE zap (D.lentL a0) c0:=zei zai zaE zap tga0 a0 c0
noncomputable def zbQ (zai:List D→Option D) (zaE:List D→Option D) (zap:List D→Option D) (a0:List D):Option D:=
  zar (zai [D.sl Tag.lent a0,D.fn (135:FuncId) [] []]) fun r1=>
  asI IntKind.i64 r1 fun i2=>
  some (D.bool (decide (i2≥(0:Int))))
theorem zdJ (zai:List D→Option D) (zaE:List D→Option D) (zap:List D→Option D) (tga0:Tag) (a0:List D):denP Try.prog (zay [(ID.slices_IndexFunc_byte_byte,(.pure [0] zai)),(ID.erase_fits_1,(.pure [0] zaE)),(ID.row_sectors_1,(.pure [0] zap))]) zci [0] ID.slices_ContainsFunc_byte_byte [.sl tga0 a0,.fn 135 [] []]=zbQ zai zaE zap (D.lentL a0):=by kernel_rfl
theorem zdr (tga0:Tag) (a0:List D):zae [.sl tga0 a0,.fn 135 [] []]=zbQ zai zaE zap (D.lentL a0):=zdJ zai zaE zap tga0 a0
def zl1:Ann:={ loops:=[] }
noncomputable def zb5:List D→Option D:=denP Try.prog (zay [(ID.slices_ContainsFunc_byte_byte,(.pure [0] zae))]) zl1 [0] ID.erase_fits
theorem zpt:za7 Try.prog ID.erase_fits (.pure [0] zb5):=zat (zaC [zcW]) zbB ⟨Try.f129,by kernel_rfl,by kernel_rfl,by kernel_rfl⟩
noncomputable def zq9:Fact Try.prog:=⟨ID.erase_fits,(.pure [0] zb5),zpt⟩
noncomputable def zkv (zae:List D→Option D) (a0:Int) (a1:List D):Option D:=
  zar (zae [D.sl Tag.lent a1,D.fn (140:Nat) [] [D.at_ (D.int IntKind.i64 a0)]]) fun r1=>
  asB r1 fun b2=>
  some (D.bool !b2)
theorem zvE (zae:List D→Option D) (tga1:Tag) (a0:Int) (a1:List D):denP Try.prog (zay [(ID.slices_ContainsFunc_byte_byte,(.pure [0] zae))]) zl1 [0] ID.erase_fits [.int .i64 a0,.sl tga1 a1]=zkv zae a0 (D.lentL a1):=by kernel_rfl
theorem zra (tga1:Tag) (a0:Int) (a1:List D):zb5 [.int .i64 a0,.sl tga1 a1]=zkv zae a0 (D.lentL a1):=zvE zae tga1 a0 a1
def zjn:Ann:={ loops:=[(0,[.val (.cell (.int .i64)),.dead,.dead,.dead,.dead,.own 1,.dead,.dead,.dead,.val (.cell .lent),.val (.cell (.int .i64)),.val (.cell (.int .i64))])] }
noncomputable def zbN:List D→Option D:=denP Try.prog (zay []) zjn [1] ID.erase_filled
theorem znD:za7 Try.prog ID.erase_filled (.pure [1] zbN):=zat (zaC []) zbB ⟨Try.f130,by kernel_rfl,by kernel_rfl,by kernel_rfl⟩
noncomputable def zox:Fact Try.prog:=⟨ID.erase_filled,(.pure [1] zbN),znD⟩
noncomputable def zhH (a0:Int) (a1:List D):Option D:=
  zcd (α:=(Int×List D×List D×Int×Int×PUnit)×PUnit) (fun again1 ((i2,(l3,(l4,(i5,(i6,_))))),_)=>
    brK (decide (i6 < i5))
      (sif ((0:Int)≤i6) <|
      getK l4 (Int.toNat i6) fun d7=>
      asSl d7 fun t8 l9=>
      sif ((0:Int)≤i2) <|
      sif (i2=i2) <|
      sif (i2*(1:Int)≤(140737488355328:Int)) <|
      sif (i2≤(140737488355328:Int)) <|
      sif ((0:Nat)+Int.toNat i2≤List.length (List.replicate (Int.toNat i2) (D.int IntKind.u8 (0:Int)))) <|
      sif (cells l9=true) <|
      sif ((0:Nat)+Int.toNat i2≤List.length ([]++List.take (Int.toNat i2) l9++List.drop ((0:Nat)+List.length (List.take (Int.toNat i2) l9)) (List.replicate (Int.toNat i2) (D.int IntKind.u8 (0:Int))))) <|
      sif (List.length l3+(1:Nat)≤(4294967296:Nat)) <|
      sif (List.length l3=List.length l3) <|
      letN (IntKind.wrap IntKind.i64 (i6+(1:Int))) fun n10=>
      sif (List.length l3+(1:Nat)=List.length (l3++[D.sl Tag.fresh (cut (0:Nat) (Int.toNat i2) ([]++List.take (Int.toNat i2) l9++List.drop ((0:Nat)+List.length (List.take (Int.toNat i2) l9)) (List.replicate (Int.toNat i2) (D.int IntKind.u8 (0:Int)))))])) <|
      again1 (((i2,l3++[D.sl Tag.fresh (cut (0:Nat) (Int.toNat i2) ([]++List.take (Int.toNat i2) l9++List.drop ((0:Nat)+List.length (List.take (Int.toNat i2) l9)) (List.replicate (Int.toNat i2) (D.int IntKind.u8 (0:Int)))))],l4,i5,n10,PUnit.unit),PUnit.unit)))
      (sif (List.length l3=List.length l3) <|
      sif (List.all l3 D.free=true) <|
      some (D.sl Tag.own l3)))
    (((a0,[],a1,(↑(List.length a1):Int),(0:Int),PUnit.unit),PUnit.unit))
theorem zrJ (tga1:Tag) (a0:Int) (a1:List D):denP Try.prog (zay []) zjn [1] ID.erase_filled [.int .i64 a0,.sl tga1 a1]=zhH a0 (D.lentL a1):=by kernel_rfl
theorem zoy (tga1:Tag) (a0:Int) (a1:List D):zbN [.int .i64 a0,.sl tga1 a1]=zhH a0 (D.lentL a1):=zrJ tga1 a0 a1
def znE:Ann:={ loops:=[] }
noncomputable def za2:List D→Option D:=denP Try.prog (zay []) znE [0] ID.gf_double
theorem zrb:za7 Try.prog ID.gf_double (.pure [0] za2):=zat (zaC []) zbB ⟨Try.f144,by kernel_rfl,by kernel_rfl,by kernel_rfl⟩
noncomputable def zhI:Fact Try.prog:=⟨ID.gf_double,(.pure [0] za2),zrb⟩
noncomputable def zmA (a0:Int):Option D:=
  brK (decide (a0≥(128:Int)))
    (letN (IntKind.wrap IntKind.u8 (a0*(2:Int))) fun n1=>
    letN (bits BinOp.xor IntKind.u8 n1 (29:Int)) fun n2=>
    some (D.int IntKind.u8 n2))
    (letN (IntKind.wrap IntKind.u8 (a0*(2:Int))) fun n3=>
    some (D.int IntKind.u8 n3))
theorem zwO (a0:Int):denP Try.prog (zay []) znE [0] ID.gf_double [.int .u8 a0]=zmA a0:=by kernel_rfl
theorem zrK (a0:Int):za2 [.int .u8 a0]=zmA a0:=zwO a0
def zsJ:Ann:={ loops:=[(0,[.val (.cell (.int .u8)),.val (.cell (.int .u8)),.dead,.dead,.dead,.val (.cell (.int .u8))])] }
noncomputable def zer:List D→Option D:=denP Try.prog (zay [(ID.gf_double,(.pure [0] za2))]) zsJ [0] ID.gf_Mul
theorem zvF:za7 Try.prog ID.gf_Mul (.pure [0] zer):=zat (zaC [zhI]) zbB ⟨Try.f146,by kernel_rfl,by kernel_rfl,by kernel_rfl⟩
noncomputable def zwP:Fact Try.prog:=⟨ID.gf_Mul,(.pure [0] zer),zvF⟩
noncomputable def zt3 (za2:List D→Option D) (a0:Int) (a1:Int):Option D:=
  zcd (α:=(Int×Int×Int×PUnit)×PUnit) (fun again1 ((i2,(i3,(i4,_))),_)=>
    brK (decide (i3 > (0:Int)))
      (letN (bits BinOp.and IntKind.u8 i3 (1:Int)) fun n5=>
      brK (n5 == (1:Int))
        (letN (bits BinOp.xor IntKind.u8 i4 i2) fun n6=>
        zar (za2 [D.int IntKind.u8 i2]) fun r7=>
        asI IntKind.u8 r7 fun i8=>
        letN (Int.fdiv i3 (2:Int)) fun n9=>
        again1 (((i8,n9,n6,PUnit.unit),PUnit.unit)))
        (zar (za2 [D.int IntKind.u8 i2]) fun r10=>
        asI IntKind.u8 r10 fun i11=>
        letN (Int.fdiv i3 (2:Int)) fun n12=>
        again1 (((i11,n12,i4,PUnit.unit),PUnit.unit))))
      (some (D.int IntKind.u8 i4)))
    (((a0,a1,(0:Int),PUnit.unit),PUnit.unit))
theorem zCn (za2:List D→Option D) (a0:Int) (a1:Int):denP Try.prog (zay [(ID.gf_double,(.pure [0] za2))]) zsJ [0] ID.gf_Mul [.int .u8 a0,.int .u8 a1]=zt3 za2 a0 a1:=by kernel_rfl
theorem zwQ (a0:Int) (a1:Int):zer [.int .u8 a0,.int .u8 a1]=zt3 za2 a0 a1:=zCn za2 a0 a1
def zl2:Ann:={ loops:=[(0,[.dead,.val (.cell (.int .u8)),.dead,.dead,.dead,.own 1,.dead,.dead,.val (.cell .lent),.val (.cell (.int .i64)),.val (.cell (.int .i64))])] }
noncomputable def zaI:List D→Option D:=denP Try.prog (zay [(ID.gf_Mul,(.pure [0] zer))]) zl2 [1] ID.synd_Scale
theorem zpu:za7 Try.prog ID.synd_Scale (.pure [1] zaI):=zat (zaC [zwP]) zbB ⟨Try.f142,by kernel_rfl,by kernel_rfl,by kernel_rfl⟩
noncomputable def zg0:Fact Try.prog:=⟨ID.synd_Scale,(.pure [1] zaI),zpu⟩
noncomputable def zkw (zer:List D→Option D) (a0:List D) (a1:Int):Option D:=
  zcd (α:=(Int×List D×List D×Int×Int×PUnit)×PUnit) (fun again1 ((i2,(l3,(l4,(i5,(i6,_))))),_)=>
    brK (decide (i6 < i5))
      (sif ((0:Int)≤i6) <|
      getK l4 (Int.toNat i6) fun d7=>
      asI IntKind.u8 d7 fun i8=>
      zar (zer [D.int IntKind.u8 i8,D.int IntKind.u8 i2]) fun r9=>
      asI IntKind.u8 r9 fun i10=>
      sif (List.length l3+(1:Nat)≤(4294967296:Nat)) <|
      sif (List.length l3=List.length l3) <|
      letN (IntKind.wrap IntKind.i64 (i6+(1:Int))) fun n11=>
      sif (List.length l3+(1:Nat)=List.length (l3++[D.int IntKind.u8 i10])) <|
      again1 (((i2,l3++[D.int IntKind.u8 i10],l4,i5,n11,PUnit.unit),PUnit.unit)))
      (sif (List.length l3=List.length l3) <|
      sif (List.all l3 D.free=true) <|
      some (D.sl Tag.own l3)))
    (((a1,[],a0,(↑(List.length a0):Int),(0:Int),PUnit.unit),PUnit.unit))
theorem zvG (zer:List D→Option D) (tga0:Tag) (a0:List D) (a1:Int):denP Try.prog (zay [(ID.gf_Mul,(.pure [0] zer))]) zl2 [1] ID.synd_Scale [.sl tga0 a0,.int .u8 a1]=zkw zer (D.lentL a0) a1:=by kernel_rfl
theorem zrc (tga0:Tag) (a0:List D) (a1:Int):zaI [.sl tga0 a0,.int .u8 a1]=zkw zer (D.lentL a0) a1:=zvG zer tga0 a0 a1
def zpe:Ann:={ loops:=[(1,[.dead,.val (.cell .lent),.dead,.dead,.dead,.own 1,.dead,.dead,.dead,.dead,.dead,.dead,.dead,.val (.cell .lent),.val (.cell (.int .i64)),.val (.cell (.int .i64))])] }
noncomputable def zaK:List D→Option D:=denP Try.prog (zay []) zpe [1] ID.synd_Add
theorem zrL:za7 Try.prog ID.synd_Add (.pure [1] zaK):=zat (zaC []) zbB ⟨Try.f132,by kernel_rfl,by kernel_rfl,by kernel_rfl⟩
noncomputable def zgw:Fact Try.prog:=⟨ID.synd_Add,(.pure [1] zaK),zrL⟩
noncomputable def zoz (a0:List D) (a1:List D):Option D:=
  brK ((↑(List.length a0):Int) != (↑(List.length a1):Int))
    (some (D.sl Tag.own []))
    (zcd (α:=(List D×List D×List D×Int×Int×PUnit)×PUnit) (fun again1 ((l2,(l3,(l4,(i5,(i6,_))))),_)=>
      brK (decide (i6 < i5))
        (sif ((0:Int)≤i6) <|
        getK l4 (Int.toNat i6) fun d7=>
        asI IntKind.u8 d7 fun i8=>
        sif ((0:Int)≤i6) <|
        getK l2 (Int.toNat i6) fun d9=>
        asI IntKind.u8 d9 fun i10=>
        letN (bits BinOp.xor IntKind.u8 i8 i10) fun n11=>
        sif (List.length l3+(1:Nat)≤(4294967296:Nat)) <|
        sif (List.length l3=List.length l3) <|
        letN (IntKind.wrap IntKind.i64 (i6+(1:Int))) fun n12=>
        sif (List.length l3+(1:Nat)=List.length (l3++[D.int IntKind.u8 n11])) <|
        again1 (((l2,l3++[D.int IntKind.u8 n11],l4,i5,n12,PUnit.unit),PUnit.unit)))
        (sif (List.length l3=List.length l3) <|
        sif (List.all l3 D.free=true) <|
        some (D.sl Tag.own l3)))
      (((a1,[],a0,(↑(List.length a0):Int),(0:Int),PUnit.unit),PUnit.unit)))
theorem zyY (tga0:Tag) (tga1:Tag) (a0:List D) (a1:List D):denP Try.prog (zay []) zpe [1] ID.synd_Add [.sl tga0 a0,.sl tga1 a1]=zoz (D.lentL a0) (D.lentL a1):=by kernel_rfl
theorem zt4 (tga0:Tag) (tga1:Tag) (a0:List D) (a1:List D):zaK [.sl tga0 a0,.sl tga1 a1]=zoz (D.lentL a0) (D.lentL a1):=zyY tga0 tga1 a0 a1
def zsK:Ann:={ loops:=[(0,[.dead,.dead,.dead,.val (.cell (.int .u8)),.dead,.dead,.dead,.val (.cell (.int .i64)),.val (.cell (.int .i64))])] }
noncomputable def zaT:List D→Option D:=denP Try.prog (zay [(ID.gf_double,(.pure [0] za2))]) zsK [0] ID.gf_Pow
theorem zvH:za7 Try.prog ID.gf_Pow (.pure [0] zaT):=zat (zaC [zhI]) zbB ⟨Try.f138,by kernel_rfl,by kernel_rfl,by kernel_rfl⟩
noncomputable def zg1:Fact Try.prog:=⟨ID.gf_Pow,(.pure [0] zaT),zvH⟩
noncomputable def zpR (za2:List D→Option D) (a0:Int):Option D:=
  letN (Int.tmod a0 (255:Int)) fun n1=>
  letN (IntKind.wrap IntKind.i64 (n1+(255:Int))) fun n2=>
  letN (Int.tmod n2 (255:Int)) fun n3=>
  zcd (α:=(Int×Int×Int×PUnit)×PUnit) (fun again4 ((i5,(i6,(i7,_))),_)=>
    brK (decide (i7 < i6))
      (zar (za2 [D.int IntKind.u8 i5]) fun r8=>
      asI IntKind.u8 r8 fun i9=>
      letN (IntKind.wrap IntKind.i64 (i7+(1:Int))) fun n10=>
      again4 (((i9,i6,n10,PUnit.unit),PUnit.unit)))
      (some (D.int IntKind.u8 i5)))
    ((((1:Int),n3,(0:Int),PUnit.unit),PUnit.unit))
theorem zCo (za2:List D→Option D) (a0:Int):denP Try.prog (zay [(ID.gf_double,(.pure [0] za2))]) zsK [0] ID.gf_Pow [.int .i64 a0]=zpR za2 a0:=by kernel_rfl
theorem zrd (a0:Int):zaT [.int .i64 a0]=zpR za2 a0:=zCo za2 a0
def zpf:Ann:={ loops:=[] }
noncomputable def zbx:List D→Option D:=denP Try.prog (zay []) zpf [0] ID.synd_P_1
theorem zrM:za7 Try.prog ID.synd_P_1 (.pure [0] zbx):=zat (zaC []) zbB ⟨Try.f137,by kernel_rfl,by kernel_rfl,by kernel_rfl⟩
noncomputable def znF:Fact Try.prog:=⟨ID.synd_P_1,(.pure [0] zbx),zrM⟩
noncomputable def zsL (a0:Int):Option D:=
  some (D.int IntKind.u8 (1:Int))
theorem zyZ (a0:Int):denP Try.prog (zay []) zpf [0] ID.synd_P_1 [.int .i64 a0]=zsL a0:=by kernel_rfl
theorem zt5 (a0:Int):zbx [.int .i64 a0]=zsL a0:=zyZ a0
def zkx:List (Nat×Ann):=[(137,{ loops:=[(1,[.dead,.fnc 137,.dead,.dead,.dead,.own 1,.dead,.dead,.dead,.dead,.dead,.dead,.dead,.dead,.dead,.dead,.val (.cell .lent),.val (.cell (.int .i64)),.val (.cell (.int .i64))])] }),(138,{ loops:=[(1,[.dead,.fnc 138,.dead,.dead,.dead,.own 1,.dead,.dead,.dead,.dead,.dead,.dead,.dead,.dead,.dead,.dead,.val (.cell .lent),.val (.cell (.int .i64)),.val (.cell (.int .i64))])] })]
noncomputable def zbJ:List D→Option D:=denA Try.prog (zay [(ID.synd_Scale,(.pure [1] zaI)),(ID.synd_Add,(.pure [1] zaK)),(ID.gf_Pow,(.pure [0] zaT)),(ID.synd_P_1,(.pure [0] zbx))]) zkx [1] ID.synd_sum
theorem zrN:za7 Try.prog ID.synd_sum (.pure [1] zbJ):=zsy (zaC [zg0,zgw,zg1,znF]) zbB ⟨Try.f136,by kernel_rfl,by kernel_rfl,by kernel_rfl⟩
noncomputable def znG:Fact Try.prog:=⟨ID.synd_sum,(.pure [1] zbJ),zrN⟩
noncomputable def ziX (zaI:List D→Option D) (zaK:List D→Option D) (zaT:List D→Option D) (zbx:List D→Option D) (a0:List D):Option D:=
  brK ((↑(List.length a0):Int) == (0:Int))
    (some (D.sl Tag.own []))
    (getK a0 ((0:Nat)) fun d1=>
    asSl d1 fun t2 l3=>
    sif ((↑(List.length l3):Int)=(↑(List.length l3):Int)) <|
    sif ((↑(List.length l3):Int)*(1:Int)≤(140737488355328:Int)) <|
    sif ((↑(List.length l3):Int)≤(140737488355328:Int)) <|
    sif (Int.toNat (↑(List.length l3):Int)=List.length (List.replicate (Int.toNat (↑(List.length l3):Int)) (D.int IntKind.u8 (0:Int)))) <|
    zcd (α:=(List D×List D×Int×Int×PUnit)×PUnit) (fun again4 ((l5,(l6,(i7,(i8,_)))),_)=>
      brK (decide (i8 < i7))
        (sif ((0:Int)≤i8) <|
        getK l6 (Int.toNat i8) fun d9=>
        asSl d9 fun t10 l11=>
        sif ((0:Nat)+List.length l5≤List.length l5) <|
        brK ((↑(List.length l11):Int) != (↑(List.length l5):Int))
          (some (D.sl Tag.own []))
          (zar (zbx [D.int IntKind.i64 i8]) fun r12=>
          asI IntKind.u8 r12 fun i13=>
          zar (zaI [D.sl t10 l11,D.int IntKind.u8 i13]) fun r14=>
          za4 r14 fun l15=>
          sif ((0:Nat)+List.length l5≤List.length l5) <|
          sif ((0:Nat)+List.length l15≤List.length l15) <|
          zar (zaK [D.sl Tag.lent (cut (0:Nat) (List.length l5) l5),D.sl Tag.lent (cut (0:Nat) (List.length l15) l15)]) fun r16=>
          za4 r16 fun l17=>
          letN (IntKind.wrap IntKind.i64 (i8+(1:Int))) fun n18=>
          sif (List.length l17=List.length l17) <|
          again4 (((l17,l6,i7,n18,PUnit.unit),PUnit.unit))))
        (sif (List.length l5=List.length l5) <|
        sif (List.all l5 D.free=true) <|
        some (D.sl Tag.own l5)))
      (((List.replicate (Int.toNat (↑(List.length l3):Int)) (D.int IntKind.u8 (0:Int)),a0,(↑(List.length a0):Int),(0:Int),PUnit.unit),PUnit.unit)))
theorem zt6 (zaI:List D→Option D) (zaK:List D→Option D) (zaT:List D→Option D) (zbx:List D→Option D) (tga0:Tag) (a0:List D):denA Try.prog (zay [(ID.synd_Scale,(.pure [1] zaI)),(ID.synd_Add,(.pure [1] zaK)),(ID.gf_Pow,(.pure [0] zaT)),(ID.synd_P_1,(.pure [0] zbx))]) zkx [1] ID.synd_sum [.sl tga0 a0,.fn 137 [] []]=ziX zaI zaK zaT zbx (D.lentL a0):=by kernel_rfl
theorem zpv (tga0:Tag) (a0:List D):zbJ [.sl tga0 a0,.fn 137 [] []]=ziX zaI zaK zaT zbx (D.lentL a0):=zt6 zaI zaK zaT zbx tga0 a0
noncomputable def ziY (zaI:List D→Option D) (zaK:List D→Option D) (zaT:List D→Option D) (zbx:List D→Option D) (a0:List D):Option D:=
  brK ((↑(List.length a0):Int) == (0:Int))
    (some (D.sl Tag.own []))
    (getK a0 ((0:Nat)) fun d1=>
    asSl d1 fun t2 l3=>
    sif ((↑(List.length l3):Int)=(↑(List.length l3):Int)) <|
    sif ((↑(List.length l3):Int)*(1:Int)≤(140737488355328:Int)) <|
    sif ((↑(List.length l3):Int)≤(140737488355328:Int)) <|
    sif (Int.toNat (↑(List.length l3):Int)=List.length (List.replicate (Int.toNat (↑(List.length l3):Int)) (D.int IntKind.u8 (0:Int)))) <|
    zcd (α:=(List D×List D×Int×Int×PUnit)×PUnit) (fun again4 ((l5,(l6,(i7,(i8,_)))),_)=>
      brK (decide (i8 < i7))
        (sif ((0:Int)≤i8) <|
        getK l6 (Int.toNat i8) fun d9=>
        asSl d9 fun t10 l11=>
        sif ((0:Nat)+List.length l5≤List.length l5) <|
        brK ((↑(List.length l11):Int) != (↑(List.length l5):Int))
          (some (D.sl Tag.own []))
          (zar (zaT [D.int IntKind.i64 i8]) fun r12=>
          asI IntKind.u8 r12 fun i13=>
          zar (zaI [D.sl t10 l11,D.int IntKind.u8 i13]) fun r14=>
          za4 r14 fun l15=>
          sif ((0:Nat)+List.length l5≤List.length l5) <|
          sif ((0:Nat)+List.length l15≤List.length l15) <|
          zar (zaK [D.sl Tag.lent (cut (0:Nat) (List.length l5) l5),D.sl Tag.lent (cut (0:Nat) (List.length l15) l15)]) fun r16=>
          za4 r16 fun l17=>
          letN (IntKind.wrap IntKind.i64 (i8+(1:Int))) fun n18=>
          sif (List.length l17=List.length l17) <|
          again4 (((l17,l6,i7,n18,PUnit.unit),PUnit.unit))))
        (sif (List.length l5=List.length l5) <|
        sif (List.all l5 D.free=true) <|
        some (D.sl Tag.own l5)))
      (((List.replicate (Int.toNat (↑(List.length l3):Int)) (D.int IntKind.u8 (0:Int)),a0,(↑(List.length a0):Int),(0:Int),PUnit.unit),PUnit.unit)))
theorem zt7 (zaI:List D→Option D) (zaK:List D→Option D) (zaT:List D→Option D) (zbx:List D→Option D) (tga0:Tag) (a0:List D):denA Try.prog (zay [(ID.synd_Scale,(.pure [1] zaI)),(ID.synd_Add,(.pure [1] zaK)),(ID.gf_Pow,(.pure [0] zaT)),(ID.synd_P_1,(.pure [0] zbx))]) zkx [1] ID.synd_sum [.sl tga0 a0,.fn 138 [] []]=ziY zaI zaK zaT zbx (D.lentL a0):=by kernel_rfl
theorem zpw (tga0:Tag) (a0:List D):zbJ [.sl tga0 a0,.fn 138 [] []]=ziY zaI zaK zaT zbx (D.lentL a0):=zt7 zaI zaK zaT zbx tga0 a0
def zsM:Ann:={ loops:=[] }
noncomputable def zbU:List D→Option D:=denP Try.prog (zay [(ID.synd_sum,(.pure [1] zbJ)),(ID.synd_P_1,(.pure [0] zbx))]) zsM [1] ID.synd_P
theorem zvI:za7 Try.prog ID.synd_P (.pure [1] zbU):=zat (zaC [znG,znF]) zbB ⟨Try.f110,by kernel_rfl,by kernel_rfl,by kernel_rfl⟩
noncomputable def zmB:Fact Try.prog:=⟨ID.synd_P,(.pure [1] zbU),zvI⟩
noncomputable def zt8 (zbJ:List D→Option D) (zbx:List D→Option D) (a0:List D):Option D:=
  zar (zbJ [D.sl Tag.lent a0,D.fn (137:Nat) [] []]) fun r1=>
  za4 r1 fun l2=>
  sif (List.length l2=List.length l2) <|
  sif (List.all l2 D.free=true) <|
  some (D.sl Tag.own l2)
theorem zCp (zbJ:List D→Option D) (zbx:List D→Option D) (tga0:Tag) (a0:List D):denP Try.prog (zay [(ID.synd_sum,(.pure [1] zbJ)),(ID.synd_P_1,(.pure [0] zbx))]) zsM [1] ID.synd_P [.sl tga0 a0]=zt8 zbJ zbx (D.lentL a0):=by kernel_rfl
theorem zwR (tga0:Tag) (a0:List D):zbU [.sl tga0 a0]=zt8 zbJ zbx (D.lentL a0):=zCp zbJ zbx tga0 a0
def zsN:Ann:={ loops:=[] }
noncomputable def zbV:List D→Option D:=denP Try.prog (zay [(ID.synd_sum,(.pure [1] zbJ)),(ID.gf_Pow,(.pure [0] zaT))]) zsN [1] ID.synd_Q
theorem zvJ:za7 Try.prog ID.synd_Q (.pure [1] zbV):=zat (zaC [znG,zg1]) zbB ⟨Try.f111,by kernel_rfl,by kernel_rfl,by kernel_rfl⟩
noncomputable def zmC:Fact Try.prog:=⟨ID.synd_Q,(.pure [1] zbV),zvJ⟩
noncomputable def zt9 (zbJ:List D→Option D) (zaT:List D→Option D) (a0:List D):Option D:=
  zar (zbJ [D.sl Tag.lent a0,D.fn (138:Nat) [] []]) fun r1=>
  za4 r1 fun l2=>
  sif (List.length l2=List.length l2) <|
  sif (List.all l2 D.free=true) <|
  some (D.sl Tag.own l2)
theorem zCq (zbJ:List D→Option D) (zaT:List D→Option D) (tga0:Tag) (a0:List D):denP Try.prog (zay [(ID.synd_sum,(.pure [1] zbJ)),(ID.gf_Pow,(.pure [0] zaT))]) zsN [1] ID.synd_Q [.sl tga0 a0]=zt9 zbJ zaT (D.lentL a0):=by kernel_rfl
theorem zwS (tga0:Tag) (a0:List D):zbV [.sl tga0 a0]=zt9 zbJ zaT (D.lentL a0):=zCq zbJ zaT tga0 a0
def zsO:Ann:={ loops:=[(0,[.val (.cell (.int .u8)),.dead,.dead,.val (.cell (.int .u8)),.dead,.val (.cell (.int .i64))])] }
noncomputable def zes:List D→Option D:=denP Try.prog (zay [(ID.gf_double,(.pure [0] za2))]) zsO [0] ID.gf_Log
theorem zvK:za7 Try.prog ID.gf_Log (.pure [0] zes):=zat (zaC [zhI]) zbB ⟨Try.f145,by kernel_rfl,by kernel_rfl,by kernel_rfl⟩
noncomputable def zwT:Fact Try.prog:=⟨ID.gf_Log,(.pure [0] zes),zvK⟩
noncomputable def zua (za2:List D→Option D) (a0:Int):Option D:=
  zcd (α:=(Int×Int×Int×PUnit)×PUnit) (fun again1 ((i2,(i3,(i4,_))),_)=>
    brK (decide (i4 < (255:Int)))
      (brK (i3 == i2)
        (some (D.int IntKind.i64 i4))
        (zar (za2 [D.int IntKind.u8 i3]) fun r5=>
        asI IntKind.u8 r5 fun i6=>
        letN (IntKind.wrap IntKind.i64 (i4+(1:Int))) fun n7=>
        again1 (((i2,i6,n7,PUnit.unit),PUnit.unit))))
      (some (D.int IntKind.i64 (-1:Int))))
    (((a0,(1:Int),(0:Int),PUnit.unit),PUnit.unit))
theorem zCr (za2:List D→Option D) (a0:Int):denP Try.prog (zay [(ID.gf_double,(.pure [0] za2))]) zsO [0] ID.gf_Log [.int .u8 a0]=zua za2 a0:=by kernel_rfl
theorem zwU (a0:Int):zes [.int .u8 a0]=zua za2 a0:=zCr za2 a0
def zsP:Ann:={ loops:=[] }
noncomputable def zcz:List D→Option D:=denP Try.prog (zay [(ID.gf_Log,(.pure [0] zes)),(ID.gf_Pow,(.pure [0] zaT))]) zsP [0] ID.gf_Inv
theorem zvL:za7 Try.prog ID.gf_Inv (.pure [0] zcz):=zat (zaC [zwT,zg1]) zbB ⟨Try.f141,by kernel_rfl,by kernel_rfl,by kernel_rfl⟩
noncomputable def zre:Fact Try.prog:=⟨ID.gf_Inv,(.pure [0] zcz),zvL⟩
noncomputable def zub (zes:List D→Option D) (zaT:List D→Option D) (a0:Int):Option D:=
  brK (a0 == (0:Int))
    (some (D.int IntKind.u8 (0:Int)))
    (zar (zes [D.int IntKind.u8 a0]) fun r1=>
    asI IntKind.i64 r1 fun i2=>
    letN (IntKind.wrap IntKind.i64 ((255:Int) - i2)) fun n3=>
    zar (zaT [D.int IntKind.i64 n3]) fun r4=>
    asI IntKind.u8 r4 fun i5=>
    some (D.int IntKind.u8 i5))
theorem zCs (zes:List D→Option D) (zaT:List D→Option D) (a0:Int):denP Try.prog (zay [(ID.gf_Log,(.pure [0] zes)),(ID.gf_Pow,(.pure [0] zaT))]) zsP [0] ID.gf_Inv [.int .u8 a0]=zub zes zaT a0:=by kernel_rfl
theorem zwV (a0:Int):zcz [.int .u8 a0]=zub zes zaT a0:=zCs zes zaT a0
def znH:Ann:={ loops:=[] }
noncomputable def zcG:List D→Option D:=denP Try.prog (zay [(ID.synd_P,(.pure [1] zbU)),(ID.synd_Add,(.pure [1] zaK)),(ID.synd_Q,(.pure [1] zbV)),(ID.gf_Pow,(.pure [0] zaT)),(ID.gf_Inv,(.pure [0] zcz)),(ID.synd_Scale,(.pure [1] zaI))]) znH [1,1] ID.erase_two
theorem zrf:za7 Try.prog ID.erase_two (.pure [1,1] zcG):=zat (zaC [zmB,zgw,zmC,zg1,zre,zg0]) zbB ⟨Try.f131,by kernel_rfl,by kernel_rfl,by kernel_rfl⟩
noncomputable def zrO:Fact Try.prog:=⟨ID.erase_two,(.pure [1,1] zcG),zrf⟩
noncomputable def zmD (zbU:List D→Option D) (zaK:List D→Option D) (zbV:List D→Option D) (zaT:List D→Option D) (zcz:List D→Option D) (zaI:List D→Option D) (a0:List D) (a1:List D) (a2:List D) (a3:Int) (a4:Int):Option D:=
  zar (zbU [D.sl Tag.lent a2]) fun r1=>
  za4 r1 fun l2=>
  sif ((0:Nat)+List.length l2≤List.length l2) <|
  zar (zaK [D.sl Tag.lent a0,D.sl Tag.lent (cut (0:Nat) (List.length l2) l2)]) fun r3=>
  za4 r3 fun l4=>
  zar (zbV [D.sl Tag.lent a2]) fun r5=>
  za4 r5 fun l6=>
  sif ((0:Nat)+List.length l6≤List.length l6) <|
  zar (zaK [D.sl Tag.lent a1,D.sl Tag.lent (cut (0:Nat) (List.length l6) l6)]) fun r7=>
  za4 r7 fun l8=>
  zar (zaT [D.int IntKind.i64 a3]) fun r9=>
  asI IntKind.u8 r9 fun i10=>
  zar (zaT [D.int IntKind.i64 a4]) fun r11=>
  asI IntKind.u8 r11 fun i12=>
  letN (bits BinOp.xor IntKind.u8 i10 i12) fun n13=>
  zar (zcz [D.int IntKind.u8 n13]) fun r14=>
  asI IntKind.u8 r14 fun i15=>
  zar (zaT [D.int IntKind.i64 a4]) fun r16=>
  asI IntKind.u8 r16 fun i17=>
  sif ((0:Nat)+List.length l4≤List.length l4) <|
  zar (zaI [D.sl Tag.lent (cut (0:Nat) (List.length l4) l4),D.int IntKind.u8 i17]) fun r18=>
  za4 r18 fun l19=>
  sif ((0:Nat)+List.length l8≤List.length l8) <|
  sif ((0:Nat)+List.length l19≤List.length l19) <|
  zar (zaK [D.sl Tag.lent (cut (0:Nat) (List.length l8) l8),D.sl Tag.lent (cut (0:Nat) (List.length l19) l19)]) fun r20=>
  za4 r20 fun l21=>
  sif ((0:Nat)+List.length l21≤List.length l21) <|
  zar (zaI [D.sl Tag.lent (cut (0:Nat) (List.length l21) l21),D.int IntKind.u8 i15]) fun r22=>
  za4 r22 fun l23=>
  sif ((0:Nat)+List.length l4≤List.length l4) <|
  sif ((0:Nat)+List.length l23≤List.length l23) <|
  zar (zaK [D.sl Tag.lent (cut (0:Nat) (List.length l4) l4),D.sl Tag.lent (cut (0:Nat) (List.length l23) l23)]) fun r24=>
  za4 r24 fun l25=>
  sif (List.length l23=List.length l23) <|
  sif (List.all l23 D.free=true) <|
  sif (List.length l25=List.length l25) <|
  sif (List.all l25 D.free=true) <|
  some (D.tup [D.sl Tag.own l23,D.sl Tag.own l25])
theorem zwW (zbU:List D→Option D) (zaK:List D→Option D) (zbV:List D→Option D) (zaT:List D→Option D) (zcz:List D→Option D) (zaI:List D→Option D) (tga0:Tag) (tga1:Tag) (tga2:Tag) (a0:List D) (a1:List D) (a2:List D) (a3:Int) (a4:Int):denP Try.prog (zay [(ID.synd_P,(.pure [1] zbU)),(ID.synd_Add,(.pure [1] zaK)),(ID.synd_Q,(.pure [1] zbV)),(ID.gf_Pow,(.pure [0] zaT)),(ID.gf_Inv,(.pure [0] zcz)),(ID.synd_Scale,(.pure [1] zaI))]) znH [1,1] ID.erase_two [.sl tga0 a0,.sl tga1 a1,.sl tga2 a2,.int .i64 a3,.int .i64 a4]=zmD zbU zaK zbV zaT zcz zaI (D.lentL a0) (D.lentL a1) (D.lentL a2) a3 a4:=by kernel_rfl
theorem zrP (tga0:Tag) (tga1:Tag) (tga2:Tag) (a0:List D) (a1:List D) (a2:List D) (a3:Int) (a4:Int):zcG [.sl tga0 a0,.sl tga1 a1,.sl tga2 a2,.int .i64 a3,.int .i64 a4]=zmD zbU zaK zbV zaT zcz zaI (D.lentL a0) (D.lentL a1) (D.lentL a2) a3 a4:=zwW zbU zaK zbV zaT zcz zaI tga0 tga1 tga2 a0 a1 a2 a3 a4
def znI:Ann:={ loops:=[] }
noncomputable def zcp:List D→Option D:=denP Try.prog (zay [(ID.synd_Q,(.pure [1] zbV)),(ID.synd_Add,(.pure [1] zaK)),(ID.gf_Pow,(.pure [0] zaT)),(ID.gf_Inv,(.pure [0] zcz)),(ID.synd_Scale,(.pure [1] zaI))]) znI [1] ID.erase_byQ
theorem zrg:za7 Try.prog ID.erase_byQ (.pure [1] zcp):=zat (zaC [zmC,zgw,zg1,zre,zg0]) zbB ⟨Try.f133,by kernel_rfl,by kernel_rfl,by kernel_rfl⟩
noncomputable def zrQ:Fact Try.prog:=⟨ID.erase_byQ,(.pure [1] zcp),zrg⟩
noncomputable def zmE (zbV:List D→Option D) (zaK:List D→Option D) (zaT:List D→Option D) (zcz:List D→Option D) (zaI:List D→Option D) (a0:List D) (a1:List D) (a2:Int):Option D:=
  zar (zbV [D.sl Tag.lent a1]) fun r1=>
  za4 r1 fun l2=>
  sif ((0:Nat)+List.length l2≤List.length l2) <|
  zar (zaK [D.sl Tag.lent a0,D.sl Tag.lent (cut (0:Nat) (List.length l2) l2)]) fun r3=>
  za4 r3 fun l4=>
  zar (zaT [D.int IntKind.i64 a2]) fun r5=>
  asI IntKind.u8 r5 fun i6=>
  zar (zcz [D.int IntKind.u8 i6]) fun r7=>
  asI IntKind.u8 r7 fun i8=>
  sif ((0:Nat)+List.length l4≤List.length l4) <|
  zar (zaI [D.sl Tag.lent (cut (0:Nat) (List.length l4) l4),D.int IntKind.u8 i8]) fun r9=>
  za4 r9 fun l10=>
  sif (List.length l10=List.length l10) <|
  sif (List.all l10 D.free=true) <|
  some (D.sl Tag.own l10)
theorem zwX (zbV:List D→Option D) (zaK:List D→Option D) (zaT:List D→Option D) (zcz:List D→Option D) (zaI:List D→Option D) (tga0:Tag) (tga1:Tag) (a0:List D) (a1:List D) (a2:Int):denP Try.prog (zay [(ID.synd_Q,(.pure [1] zbV)),(ID.synd_Add,(.pure [1] zaK)),(ID.gf_Pow,(.pure [0] zaT)),(ID.gf_Inv,(.pure [0] zcz)),(ID.synd_Scale,(.pure [1] zaI))]) znI [1] ID.erase_byQ [.sl tga0 a0,.sl tga1 a1,.int .i64 a2]=zmE zbV zaK zaT zcz zaI (D.lentL a0) (D.lentL a1) a2:=by kernel_rfl
theorem zrR (tga0:Tag) (tga1:Tag) (a0:List D) (a1:List D) (a2:Int):zcp [.sl tga0 a0,.sl tga1 a1,.int .i64 a2]=zmE zbV zaK zaT zcz zaI (D.lentL a0) (D.lentL a1) a2:=zwX zbV zaK zaT zcz zaI tga0 tga1 a0 a1 a2
def zky:Ann:={ loops:=[] }
noncomputable def zbZ:List D→Option D:=denP Try.prog (zay [(ID.erase_Missing,(.pure [1] zbC)),(ID.erase_fits,(.pure [0] zb5)),(ID.erase_filled,(.pure [1] zbN)),(ID.erase_two,(.pure [1,1] zcG)),(ID.synd_P,(.pure [1] zbU)),(ID.synd_Add,(.pure [1] zaK)),(ID.erase_byQ,(.pure [1] zcp))]) zky [1,0] ID.erase_Solve
theorem zoA:za7 Try.prog ID.erase_Solve (.pure [1,0] zbZ):=zat (zaC [znz,zq9,zox,zrO,zmB,zgw,zrQ]) zbB ⟨Try.f105,by kernel_rfl,by kernel_rfl,by kernel_rfl⟩
noncomputable def zpx:Fact Try.prog:=⟨ID.erase_Solve,(.pure [1,0] zbZ),zoA⟩
noncomputable def ziZ (zbC:List D→Option D) (zb5:List D→Option D) (zbN:List D→Option D) (zcG:List D→Option D) (zbU:List D→Option D) (zaK:List D→Option D) (zcp:List D→Option D) (a0:Int) (a1:List D) (a2:List D) (a3:List D):Option D:=
  zar (zbC [D.sl Tag.lent a3]) fun r1=>
  za4 r1 fun l2=>
  brK (decide (a0 < (1:Int)))
    (some (D.tup [D.sl Tag.own [],D.bool false]))
    (brK (decide ((↑(List.length a3):Int) < (1:Int)))
      (some (D.tup [D.sl Tag.own [],D.bool false]))
      (brK (decide ((↑(List.length a3):Int) > (8:Int)))
        (some (D.tup [D.sl Tag.own [],D.bool false]))
        (zar (zb5 [D.int IntKind.i64 a0,D.sl Tag.lent a3]) fun r3=>
        asB r3 fun b4=>
        brK (!b4)
          (some (D.tup [D.sl Tag.own [],D.bool false]))
          (zar (zb5 [D.int IntKind.i64 a0,D.sl Tag.full [D.sl Tag.lent a1,D.sl Tag.lent a2]]) fun r5=>
          asB r5 fun b6=>
          brK (!b6)
            (some (D.tup [D.sl Tag.own [],D.bool false]))
            (sif ((0:Nat)+List.length l2≤List.length l2) <|
            zar (zbC [D.sl Tag.full [D.sl Tag.lent a1,D.sl Tag.lent a2]]) fun r7=>
            za4 r7 fun l8=>
            sif ((0:Nat)+List.length l8≤List.length l8) <|
            letN (IntKind.wrap IntKind.i64 ((↑(List.length l2):Int)+(↑(List.length l8):Int))) fun n9=>
            brK (decide (n9 > (2:Int)))
              (some (D.tup [D.sl Tag.own [],D.bool false]))
              (zar (zbN [D.int IntKind.i64 a0,D.sl Tag.lent a3]) fun r10=>
              za4 r10 fun l11=>
              sif ((0:Nat)+List.length l2≤List.length l2) <|
              brK ((↑(List.length l2):Int) == (2:Int))
                (sif ((0:Nat) < List.length l2) <|
                getK l2 ((0:Nat)) fun d12=>
                asI IntKind.i64 d12 fun i13=>
                sif ((1:Nat) < List.length l2) <|
                getK l2 ((1:Nat)) fun d14=>
                asI IntKind.i64 d14 fun i15=>
                sif ((0:Nat) < List.length l2) <|
                getK l2 ((0:Nat)) fun d16=>
                asI IntKind.i64 d16 fun i17=>
                sif ((1:Nat) < List.length l2) <|
                getK l2 ((1:Nat)) fun d18=>
                asI IntKind.i64 d18 fun i19=>
                sif ((0:Nat)+List.length l11≤List.length l11) <|
                zar (zcG [D.sl Tag.lent a1,D.sl Tag.lent a2,D.sl Tag.lent (cut (0:Nat) (List.length l11) l11),D.int IntKind.i64 i17,D.int IntKind.i64 i19]) fun r20=>
                zd5 r20 fun ts21=>
                zaw ([Lf.any,Lf.any]) ts21 fun c22=>
                za4 c22.fst fun l23=>
                za4 c22.snd.fst fun l24=>
                sif ((0:Int)≤i13) <|
                sif (Int.toNat i13 < List.length l11) <|
                sif ((0:Nat)+List.length l23≤List.length l23) <|
                getK l11 ((0:Nat)+Int.toNat i13) fun d25=>
                sif ((0:Nat)+List.length l23≤List.length l23) <|
                sif (D.isAgg d25=false) <|
                sif ((0:Int)≤i15) <|
                sif (Int.toNat i15 < List.length l11) <|
                sif ((0:Nat)+List.length l24≤List.length l24) <|
                getK (List.set l11 ((0:Nat)+Int.toNat i13) (D.sl Tag.fresh (cut (0:Nat) (List.length l23) l23))) ((0:Nat)+Int.toNat i15) fun d26=>
                sif ((0:Nat)+List.length l24≤List.length l24) <|
                sif (D.isAgg d26=false) <|
                sif (List.length l11=List.length (List.set (List.set l11 ((0:Nat)+Int.toNat i13) (D.sl Tag.fresh (cut (0:Nat) (List.length l23) l23))) ((0:Nat)+Int.toNat i15) (D.sl Tag.fresh (cut (0:Nat) (List.length l24) l24)))) <|
                sif (List.all (List.set (List.set l11 ((0:Nat)+Int.toNat i13) (D.sl Tag.fresh (cut (0:Nat) (List.length l23) l23))) ((0:Nat)+Int.toNat i15) (D.sl Tag.fresh (cut (0:Nat) (List.length l24) l24))) D.free=true) <|
                some (D.tup [D.sl Tag.own (List.set (List.set l11 ((0:Nat)+Int.toNat i13) (D.sl Tag.fresh (cut (0:Nat) (List.length l23) l23))) ((0:Nat)+Int.toNat i15) (D.sl Tag.fresh (cut (0:Nat) (List.length l24) l24))),D.bool true]))
                (sif ((0:Nat)+List.length l2≤List.length l2) <|
                brK ((↑(List.length l2):Int) == (1:Int))
                  (brK (decide ((↑(List.length a1):Int) > (0:Int)))
                    (sif ((0:Nat) < List.length l2) <|
                    getK l2 ((0:Nat)) fun d27=>
                    asI IntKind.i64 d27 fun i28=>
                    sif ((0:Nat)+List.length l11≤List.length l11) <|
                    zar (zbU [D.sl Tag.lent (cut (0:Nat) (List.length l11) l11)]) fun r29=>
                    za4 r29 fun l30=>
                    sif ((0:Nat)+List.length l30≤List.length l30) <|
                    zar (zaK [D.sl Tag.lent a1,D.sl Tag.lent (cut (0:Nat) (List.length l30) l30)]) fun r31=>
                    za4 r31 fun l32=>
                    sif ((0:Int)≤i28) <|
                    sif (Int.toNat i28 < List.length l11) <|
                    sif ((0:Nat)+List.length l32≤List.length l32) <|
                    getK l11 ((0:Nat)+Int.toNat i28) fun d33=>
                    sif ((0:Nat)+List.length l32≤List.length l32) <|
                    sif (D.isAgg d33=false) <|
                    sif (List.length l11=List.length (List.set l11 ((0:Nat)+Int.toNat i28) (D.sl Tag.fresh (cut (0:Nat) (List.length l32) l32)))) <|
                    sif (List.all (List.set l11 ((0:Nat)+Int.toNat i28) (D.sl Tag.fresh (cut (0:Nat) (List.length l32) l32))) D.free=true) <|
                    some (D.tup [D.sl Tag.own (List.set l11 ((0:Nat)+Int.toNat i28) (D.sl Tag.fresh (cut (0:Nat) (List.length l32) l32))),D.bool true]))
                    (sif ((0:Nat)+List.length l2≤List.length l2) <|
                    brK ((↑(List.length l2):Int) == (1:Int))
                      (sif ((0:Nat) < List.length l2) <|
                      getK l2 ((0:Nat)) fun d34=>
                      asI IntKind.i64 d34 fun i35=>
                      sif ((0:Nat) < List.length l2) <|
                      getK l2 ((0:Nat)) fun d36=>
                      asI IntKind.i64 d36 fun i37=>
                      sif ((0:Nat)+List.length l11≤List.length l11) <|
                      zar (zcp [D.sl Tag.lent a2,D.sl Tag.lent (cut (0:Nat) (List.length l11) l11),D.int IntKind.i64 i37]) fun r38=>
                      za4 r38 fun l39=>
                      sif ((0:Int)≤i35) <|
                      sif (Int.toNat i35 < List.length l11) <|
                      sif ((0:Nat)+List.length l39≤List.length l39) <|
                      getK l11 ((0:Nat)+Int.toNat i35) fun d40=>
                      sif ((0:Nat)+List.length l39≤List.length l39) <|
                      sif (D.isAgg d40=false) <|
                      sif (List.length l11=List.length (List.set l11 ((0:Nat)+Int.toNat i35) (D.sl Tag.fresh (cut (0:Nat) (List.length l39) l39)))) <|
                      sif (List.all (List.set l11 ((0:Nat)+Int.toNat i35) (D.sl Tag.fresh (cut (0:Nat) (List.length l39) l39))) D.free=true) <|
                      some (D.tup [D.sl Tag.own (List.set l11 ((0:Nat)+Int.toNat i35) (D.sl Tag.fresh (cut (0:Nat) (List.length l39) l39))),D.bool true]))
                      (sif (List.length l11=List.length l11) <|
                      sif (List.all l11 D.free=true) <|
                      some (D.tup [D.sl Tag.own l11,D.bool true]))))
                  (sif ((0:Nat)+List.length l2≤List.length l2) <|
                  brK ((↑(List.length l2):Int) == (1:Int))
                    (sif ((0:Nat) < List.length l2) <|
                    getK l2 ((0:Nat)) fun d41=>
                    asI IntKind.i64 d41 fun i42=>
                    sif ((0:Nat) < List.length l2) <|
                    getK l2 ((0:Nat)) fun d43=>
                    asI IntKind.i64 d43 fun i44=>
                    sif ((0:Nat)+List.length l11≤List.length l11) <|
                    zar (zcp [D.sl Tag.lent a2,D.sl Tag.lent (cut (0:Nat) (List.length l11) l11),D.int IntKind.i64 i44]) fun r45=>
                    za4 r45 fun l46=>
                    sif ((0:Int)≤i42) <|
                    sif (Int.toNat i42 < List.length l11) <|
                    sif ((0:Nat)+List.length l46≤List.length l46) <|
                    getK l11 ((0:Nat)+Int.toNat i42) fun d47=>
                    sif ((0:Nat)+List.length l46≤List.length l46) <|
                    sif (D.isAgg d47=false) <|
                    sif (List.length l11=List.length (List.set l11 ((0:Nat)+Int.toNat i42) (D.sl Tag.fresh (cut (0:Nat) (List.length l46) l46)))) <|
                    sif (List.all (List.set l11 ((0:Nat)+Int.toNat i42) (D.sl Tag.fresh (cut (0:Nat) (List.length l46) l46))) D.free=true) <|
                    some (D.tup [D.sl Tag.own (List.set l11 ((0:Nat)+Int.toNat i42) (D.sl Tag.fresh (cut (0:Nat) (List.length l46) l46))),D.bool true]))
                    (sif (List.length l11=List.length l11) <|
                    sif (List.all l11 D.free=true) <|
                    some (D.tup [D.sl Tag.own l11,D.bool true]))))))))))
theorem zuc (zbC:List D→Option D) (zb5:List D→Option D) (zbN:List D→Option D) (zcG:List D→Option D) (zbU:List D→Option D) (zaK:List D→Option D) (zcp:List D→Option D) (tga1:Tag) (tga2:Tag) (tga3:Tag) (a0:Int) (a1:List D) (a2:List D) (a3:List D):denP Try.prog (zay [(ID.erase_Missing,(.pure [1] zbC)),(ID.erase_fits,(.pure [0] zb5)),(ID.erase_filled,(.pure [1] zbN)),(ID.erase_two,(.pure [1,1] zcG)),(ID.synd_P,(.pure [1] zbU)),(ID.synd_Add,(.pure [1] zaK)),(ID.erase_byQ,(.pure [1] zcp))]) zky [1,0] ID.erase_Solve [.int .i64 a0,.sl tga1 a1,.sl tga2 a2,.sl tga3 a3]=ziZ zbC zb5 zbN zcG zbU zaK zcp a0 (D.lentL a1) (D.lentL a2) (D.lentL a3):=by kernel_rfl
theorem zpy (tga1:Tag) (tga2:Tag) (tga3:Tag) (a0:Int) (a1:List D) (a2:List D) (a3:List D):zbZ [.int .i64 a0,.sl tga1 a1,.sl tga2 a2,.sl tga3 a3]=ziZ zbC zb5 zbN zcG zbU zaK zcp a0 (D.lentL a1) (D.lentL a2) (D.lentL a3):=zuc zbC zb5 zbN zcG zbU zaK zcp tga1 tga2 tga3 a0 a1 a2 a3
def zpg:Ann:={ loops:=[(1,[.dead,.val (.cell (.int .i64)),.val (.cell .lent),.box true [(.int .i64),(.int .i64),(.int .i64)],.dead,.dead,.dead,.dead,.own 1,.dead,.dead,.dead,.dead,.dead,.dead,.dead,.dead,.dead,.dead,.dead,.dead,.dead,.dead,.dead,.val (.cell (.int .i64)),.val (.cell (.int .i64))])] }
noncomputable def zc2:List D→Option D:=denP Try.prog (zay [(ID.row_in,(.pure [0] zcy)),(ID.geom_Width,(.pure [0] zaS)),(ID.place_Disk,(.pure [0] zbm)),(ID.place_Parity,(.pure [0,0] zaJ)),(ID.erase_Solve,(.pure [1,0] zbZ))]) zpg [1,0] ID.row_Take
theorem zrS:za7 Try.prog ID.row_Take (.pure [1,0] zc2):=zat (zaC [zq4,zgX,zkt,zfv,zpx]) zbB ⟨Try.f71,by kernel_rfl,by kernel_rfl,by kernel_rfl⟩
noncomputable def zud:Fact Try.prog:=⟨ID.row_Take,(.pure [1,0] zc2),zrS⟩
noncomputable def zoB (zcy:List D→Option D) (zaS:List D→Option D) (zbm:List D→Option D) (zaJ:List D→Option D) (zbZ:List D→Option D) (a0_0:Int) (a0_1:Int) (a0_2:Int) (a1:Int) (a2:List D):Option D:=
  zar (zcy [D.agg [D.int IntKind.i64 a0_0,D.int IntKind.i64 a0_1,D.int IntKind.i64 a0_2],D.int IntKind.i64 a1]) fun r1=>
  asB r1 fun b2=>
  brK (!b2)
    (some (D.tup [D.sl Tag.own [],D.bool false]))
    (brK ((↑(List.length a2):Int) != a0_1)
      (some (D.tup [D.sl Tag.own [],D.bool false]))
      (zar (zaS [D.agg [D.int IntKind.i64 a0_0,D.int IntKind.i64 a0_1,D.int IntKind.i64 a0_2]]) fun r3=>
      asI IntKind.i64 r3 fun i4=>
      zcd (α:=(Int×List D×(Int×Int×Int×PUnit)×List D×Int×Int×PUnit)×PUnit) (fun again5 ((i6,(l7,((i8,(i9,(i10,_))),(l11,(i12,(i13,_)))))),_)=>
        brK (decide (i13 < i12))
          (zar (zbm [D.agg [D.int IntKind.i64 i8,D.int IntKind.i64 i9,D.int IntKind.i64 i10],D.int IntKind.i64 i6,D.int IntKind.i64 i13]) fun r14=>
          asI IntKind.i64 r14 fun i15=>
          sif ((0:Int)≤i15) <|
          getK l7 (Int.toNat i15) fun d16=>
          asSl d16 fun t17 l18=>
          sif (List.length l11+(1:Nat)≤(4294967296:Nat)) <|
          sif (List.length l11=List.length l11) <|
          letN (IntKind.wrap IntKind.i64 (i13+(1:Int))) fun n19=>
          sif (List.length l11+(1:Nat)=List.length (l11++[D.sl t17 l18])) <|
          again5 (((i6,l7,(i8,i9,i10,PUnit.unit),l11++[D.sl t17 l18],i12,n19,PUnit.unit),PUnit.unit)))
          (zar (zaJ [D.agg [D.int IntKind.i64 i8,D.int IntKind.i64 i9,D.int IntKind.i64 i10],D.int IntKind.i64 i6]) fun r20=>
          zd5 r20 fun ts21=>
          zaw ([Lf.any,Lf.any]) ts21 fun c22=>
          asI IntKind.i64 c22.fst fun i23=>
          asI IntKind.i64 c22.snd.fst fun i24=>
          brK (decide (i24 < (0:Int)))
            (sif ((0:Int)≤i23) <|
            getK l7 (Int.toNat i23) fun d25=>
            asSl d25 fun t26 l27=>
            sif ((0:Nat)+List.length l11≤List.length l11) <|
            zar (zbZ [D.int IntKind.i64 (32:Int),D.sl t26 l27,D.sl Tag.nil [],D.sl Tag.lent (cut (0:Nat) (List.length l11) l11)]) fun r28=>
            zd5 r28 fun ts29=>
            zaw ([Lf.any,Lf.any]) ts29 fun c30=>
            za4 c30.fst fun l31=>
            asB c30.snd.fst fun b32=>
            sif (List.length l31=List.length l31) <|
            sif (List.all l31 D.free=true) <|
            some (D.tup [D.sl Tag.own l31,D.bool b32]))
            (sif ((0:Int)≤i23) <|
            getK l7 (Int.toNat i23) fun d33=>
            asSl d33 fun t34 l35=>
            sif ((0:Int)≤i24) <|
            getK l7 (Int.toNat i24) fun d36=>
            asSl d36 fun t37 l38=>
            sif ((0:Nat)+List.length l11≤List.length l11) <|
            zar (zbZ [D.int IntKind.i64 (32:Int),D.sl t34 l35,D.sl t37 l38,D.sl Tag.lent (cut (0:Nat) (List.length l11) l11)]) fun r39=>
            zd5 r39 fun ts40=>
            zaw ([Lf.any,Lf.any]) ts40 fun c41=>
            za4 c41.fst fun l42=>
            asB c41.snd.fst fun b43=>
            sif (List.length l42=List.length l42) <|
            sif (List.all l42 D.free=true) <|
            some (D.tup [D.sl Tag.own l42,D.bool b43]))))
        (((a1,a2,(a0_0,a0_1,a0_2,PUnit.unit),[],i4,(0:Int),PUnit.unit),PUnit.unit))))
theorem zy0 (zcy:List D→Option D) (zaS:List D→Option D) (zbm:List D→Option D) (zaJ:List D→Option D) (zbZ:List D→Option D) (tga2:Tag) (a0_0:Int) (a0_1:Int) (a0_2:Int) (a1:Int) (a2:List D):denP Try.prog (zay [(ID.row_in,(.pure [0] zcy)),(ID.geom_Width,(.pure [0] zaS)),(ID.place_Disk,(.pure [0] zbm)),(ID.place_Parity,(.pure [0,0] zaJ)),(ID.erase_Solve,(.pure [1,0] zbZ))]) zpg [1,0] ID.row_Take [.agg [.int .i64 a0_0,.int .i64 a0_1,.int .i64 a0_2],.int .i64 a1,.sl tga2 a2]=zoB zcy zaS zbm zaJ zbZ a0_0 a0_1 a0_2 a1 (D.lentL a2):=by kernel_rfl
theorem zue (tga2:Tag) (a0_0:Int) (a0_1:Int) (a0_2:Int) (a1:Int) (a2:List D):zc2 [.agg [.int .i64 a0_0,.int .i64 a0_1,.int .i64 a0_2],.int .i64 a1,.sl tga2 a2]=zoB zcy zaS zbm zaJ zbZ a0_0 a0_1 a0_2 a1 (D.lentL a2):=zy0 zcy zaS zbm zaJ zbZ tga2 a0_0 a0_1 a0_2 a1 a2
def zkz:Ann:={ loops:=[(1,[.val (.cell (.hnd (3840:Nat))),.val (.cell .lent),.dead,.val (.cell (.int .i64)),.dead,.dead,.box true [(.int .i64),(.int .i64),(.int .i64)],.dead,.dead,.dead,.own 1,.dead,.dead,.dead,.dead,.dead,.dead,.dead,.dead,.dead,.dead,.dead,.dead,.dead,.dead,.dead,.dead,.dead,.dead,.dead,.dead,.val (.cell (.int .i64)),.val (.cell (.int .i64))])],ks:=[(3840,false),(7649,false)] }
noncomputable def zb0:List D→List Tb→Option Ans:=denS Try.prog (zay [(ID.geom_Check,(.pure [0] zak)),(ID.stripe_up,(.st [] [0] [(3840,false),(7649,false)] za6)),(ID.bench_Bench_Read,(.st [] [1,0] [(3840,false),(7649,false)] zax)),(ID.row_Take,(.pure [1,0] zc2))]) zkz [1,0] ID.stripe_Read
theorem zoC:za7 Try.prog ID.stripe_Read (.st [] [1,0] [(3840,false),(7649,false)] zb0):=zbc (zaC [zdh,zrE,zfU,zud]) zbB ⟨Try.f21,by kernel_rfl,by kernel_rfl,by kernel_rfl⟩
noncomputable def zpz:Fact Try.prog:=⟨ID.stripe_Read,(.st [] [1,0] [(3840,false),(7649,false)] zb0),zoC⟩
noncomputable def zi0 (zak:List D→Option D) (za6:List D→List Tb→Option Ans) (zax:List D→List Tb→Option Ans) (zc2:List D→Option D) (a0:Nat) (a1:List D) (a2_0:Int) (a2_1:Int) (a2_2:Int) (a3:Int) (T0:Tb) (T1:Tb):Option Ans:=
  zar (zak [D.agg [D.int IntKind.i64 a2_0,D.int IntKind.i64 a2_1,D.int IntKind.i64 a2_2]]) fun r1=>
  asI IntKind.i64 r1 fun i2=>
  brK (i2 != (0:Int))
    (some (Ans.mk (D.tup [D.sl Tag.own [],D.int IntKind.i64 (1:Int)]) [] []))
    (brK (decide (a3 < (0:Int)))
      (some (Ans.mk (D.tup [D.sl Tag.own [],D.int IntKind.i64 (1:Int)]) [] []))
      (brK (decide (a3≥(16:Int)))
        (some (Ans.mk (D.tup [D.sl Tag.own [],D.int IntKind.i64 (1:Int)]) [] []))
        (sif ((0:Int)≤a2_1) <|
        sif (a2_1=a2_1) <|
        sif (a2_1*(24:Int)≤(140737488355328:Int)) <|
        sif (a2_1≤(140737488355328:Int)) <|
        sif ((0:Nat)+Int.toNat a2_1≤List.length (List.replicate (Int.toNat a2_1) (D.sl Tag.nil []))) <|
        sif (Int.toNat a2_1=List.length (List.replicate (Int.toNat a2_1) (D.sl Tag.nil []))) <|
        zcd (α:=(Nat×List D×Int×(Int×Int×Int×PUnit)×List D×Int×Int×PUnit)×List (List D)×List (List D)×PUnit) (fun again3 ((x4,(l5,(i6,((i7,(i8,(i9,_))),(l10,(i11,(i12,_))))))),(U13,(U14,_)))=>
          brK (decide (i12 < i11))
            (zar (za6 [D.h (3840) x4 (0:Nat),D.sl Tag.lent l5,D.int IntKind.i64 i12] [U13,U14]) fun r15=>
            nilK r15.outs <|
            nilK r15.tbs <|
            asB r15.r fun b16=>
            brK (!b16)
              (letN (IntKind.wrap IntKind.i64 (i12+(1:Int))) fun n17=>
              sif (List.length l10=List.length l10) <|
              again3 (((x4,l5,i6,(i7,i8,i9,PUnit.unit),l10,i11,n17,PUnit.unit),U13,U14,PUnit.unit)))
              (letN (IntKind.wrap IntKind.i64 ((36:Int)+i6)) fun n18=>
              zar (zax [D.h (3840) x4 (0:Nat),D.int IntKind.i64 i12,D.int IntKind.i64 n18] [U13,U14]) fun r19=>
              nilK r19.outs <|
              nilK r19.tbs <|
              zd5 r19.r fun ts20=>
              zaw ([Lf.any,Lf.any]) ts20 fun c21=>
              za4 c21.fst fun l22=>
              asI IntKind.i64 c21.snd.fst fun i23=>
              brK (i23 != (0:Int))
                (some (Ans.mk (D.tup [D.sl Tag.own [],D.int IntKind.i64 i23]) [] []))
                (sif ((0:Int)≤i12) <|
                sif (Int.toNat i12 < List.length l10) <|
                sif ((0:Nat)+List.length l22≤List.length l22) <|
                getK l10 ((0:Nat)+Int.toNat i12) fun d24=>
                sif ((0:Nat)+List.length l22≤List.length l22) <|
                sif (D.isAgg d24=false) <|
                letN (IntKind.wrap IntKind.i64 (i12+(1:Int))) fun n25=>
                sif (List.length l10=List.length (List.set l10 ((0:Nat)+Int.toNat i12) (D.sl Tag.fresh (cut (0:Nat) (List.length l22) l22)))) <|
                again3 (((x4,l5,i6,(i7,i8,i9,PUnit.unit),List.set l10 ((0:Nat)+Int.toNat i12) (D.sl Tag.fresh (cut (0:Nat) (List.length l22) l22)),i11,n25,PUnit.unit),U13,U14,PUnit.unit)))))
            (sif ((0:Nat)+List.length l10≤List.length l10) <|
            zar (zc2 [D.agg [D.int IntKind.i64 i7,D.int IntKind.i64 i8,D.int IntKind.i64 i9],D.int IntKind.i64 i6,D.sl Tag.lent (cut (0:Nat) (List.length l10) l10)]) fun r26=>
            zd5 r26 fun ts27=>
            zaw ([Lf.any,Lf.any]) ts27 fun c28=>
            za4 c28.fst fun l29=>
            asB c28.snd.fst fun b30=>
            brK (!b30)
              (some (Ans.mk (D.tup [D.sl Tag.own [],D.int IntKind.i64 (7:Int)]) [] []))
              (sif (List.length l29=List.length l29) <|
              sif (List.all l29 D.free=true) <|
              some (Ans.mk (D.tup [D.sl Tag.own l29,D.int IntKind.i64 (0:Int)]) [] []))))
          (((a0,a1,a3,(a2_0,a2_1,a2_2,PUnit.unit),List.replicate (Int.toNat a2_1) (D.sl Tag.nil []),(↑(Int.toNat a2_1):Int),(0:Int),PUnit.unit),T0,T1,PUnit.unit)))))
theorem zuf (zak:List D→Option D) (za6:List D→List Tb→Option Ans) (zax:List D→List Tb→Option Ans) (zc2:List D→Option D) (tga1:Tag) (a0:Nat) (a1:List D) (a2_0:Int) (a2_1:Int) (a2_2:Int) (a3:Int) (T0:Tb) (T1:Tb):denS Try.prog (zay [(ID.geom_Check,(.pure [0] zak)),(ID.stripe_up,(.st [] [0] [(3840,false),(7649,false)] za6)),(ID.bench_Bench_Read,(.st [] [1,0] [(3840,false),(7649,false)] zax)),(ID.row_Take,(.pure [1,0] zc2))]) zkz [1,0] ID.stripe_Read [.h 3840 a0 0,.sl tga1 a1,.agg [.int .i64 a2_0,.int .i64 a2_1,.int .i64 a2_2],.int .i64 a3] [T0,T1]=zi0 zak za6 zax zc2 a0 (D.lentL a1) a2_0 a2_1 a2_2 a3 T0 T1:=by kernel_rfl
theorem zpA (tga1:Tag) (a0:Nat) (a1:List D) (a2_0:Int) (a2_1:Int) (a2_2:Int) (a3:Int) (T0:Tb) (T1:Tb):zb0 [.h 3840 a0 0,.sl tga1 a1,.agg [.int .i64 a2_0,.int .i64 a2_1,.int .i64 a2_2],.int .i64 a3] [T0,T1]=zi0 zak za6 zax zc2 a0 (D.lentL a1) a2_0 a2_1 a2_2 a3 T0 T1:=zuf zak za6 zax zc2 tga1 a0 a1 a2_0 a2_1 a2_2 a3 T0 T1
def zkA:Ann:={ loops:=[] }
noncomputable def zb8:List D→Option D:=denP Try.prog (zay [(ID.slices_ContainsFunc_byte_byte,(.pure [0] zae)),(ID.row_sectors_1,(.pure [0] zap))]) zkA [0] ID.row_sectors
theorem zoD:za7 Try.prog ID.row_sectors (.pure [0] zb8):=zat (zaC [zcW,zeZ]) zbB ⟨Try.f108,by kernel_rfl,by kernel_rfl,by kernel_rfl⟩
noncomputable def zpB:Fact Try.prog:=⟨ID.row_sectors,(.pure [0] zb8),zoD⟩
noncomputable def zi1 (zae:List D→Option D) (zap:List D→Option D) (a0:List D):Option D:=
  zar (zae [D.sl Tag.lent a0,D.fn (135:Nat) [] []]) fun r1=>
  asB r1 fun b2=>
  some (D.bool !b2)
theorem zug (zae:List D→Option D) (zap:List D→Option D) (tga0:Tag) (a0:List D):denP Try.prog (zay [(ID.slices_ContainsFunc_byte_byte,(.pure [0] zae)),(ID.row_sectors_1,(.pure [0] zap))]) zkA [0] ID.row_sectors [.sl tga0 a0]=zi1 zae zap (D.lentL a0):=by kernel_rfl
theorem zpC (tga0:Tag) (a0:List D):zb8 [.sl tga0 a0]=zi1 zae zap (D.lentL a0):=zug zae zap tga0 a0
def zph:Ann:={ loops:=[(1,[.dead,.val (.cell (.int .i64)),.val (.cell .lent),.box true [(.int .i64),(.int .i64),(.int .i64)],.dead,.dead,.dead,.dead,.own 1,.dead,.dead,.dead,.dead,.dead,.dead,.dead,.dead,.dead,.dead,.dead,.dead,.dead,.dead,.dead,.dead,.dead,.dead,.dead,.dead,.dead,.dead,.dead,.val (.cell .lent),.val (.cell (.int .i64)),.val (.cell (.int .i64))])] }
noncomputable def zbT:List D→Option D:=denP Try.prog (zay [(ID.row_in,(.pure [0] zcy)),(ID.geom_Width,(.pure [0] zaS)),(ID.row_sectors,(.pure [0] zb8)),(ID.place_Disk,(.pure [0] zbm)),(ID.slices_Clone_byte_byte,(.pure [1] zam)),(ID.place_Parity,(.pure [0,0] zaJ)),(ID.synd_P,(.pure [1] zbU)),(ID.synd_Q,(.pure [1] zbV))]) zph [1,0] ID.row_Fill
theorem zrT:za7 Try.prog ID.row_Fill (.pure [1,0] zbT):=zat (zaC [zq4,zgX,zpB,zkt,zdT,zfv,zmB,zmC]) zbB ⟨Try.f77,by kernel_rfl,by kernel_rfl,by kernel_rfl⟩
noncomputable def zuh:Fact Try.prog:=⟨ID.row_Fill,(.pure [1,0] zbT),zrT⟩
noncomputable def zoE (zcy:List D→Option D) (zaS:List D→Option D) (zb8:List D→Option D) (zbm:List D→Option D) (zam:List D→Option D) (zaJ:List D→Option D) (zbU:List D→Option D) (zbV:List D→Option D) (a0_0:Int) (a0_1:Int) (a0_2:Int) (a1:Int) (a2:List D):Option D:=
  zar (zcy [D.agg [D.int IntKind.i64 a0_0,D.int IntKind.i64 a0_1,D.int IntKind.i64 a0_2],D.int IntKind.i64 a1]) fun r1=>
  asB r1 fun b2=>
  brK (!b2)
    (some (D.tup [D.sl Tag.own [],D.bool false]))
    (zar (zaS [D.agg [D.int IntKind.i64 a0_0,D.int IntKind.i64 a0_1,D.int IntKind.i64 a0_2]]) fun r3=>
    asI IntKind.i64 r3 fun i4=>
    brK ((↑(List.length a2):Int) != i4)
      (some (D.tup [D.sl Tag.own [],D.bool false]))
      (zar (zb8 [D.sl Tag.lent a2]) fun r5=>
      asB r5 fun b6=>
      brK (!b6)
        (some (D.tup [D.sl Tag.own [],D.bool false]))
        (sif ((0:Int)≤a0_1) <|
        sif (a0_1=a0_1) <|
        sif (a0_1*(24:Int)≤(140737488355328:Int)) <|
        sif (a0_1≤(140737488355328:Int)) <|
        sif (Int.toNat a0_1=List.length (List.replicate (Int.toNat a0_1) (D.sl Tag.nil []))) <|
        zcd (α:=(Int×List D×(Int×Int×Int×PUnit)×List D×List D×Int×Int×PUnit)×PUnit) (fun again7 ((i8,(l9,((i10,(i11,(i12,_))),(l13,(l14,(i15,(i16,_))))))),_)=>
          brK (decide (i16 < i15))
            (sif ((0:Int)≤i16) <|
            getK l14 (Int.toNat i16) fun d17=>
            asSl d17 fun t18 l19=>
            zar (zbm [D.agg [D.int IntKind.i64 i10,D.int IntKind.i64 i11,D.int IntKind.i64 i12],D.int IntKind.i64 i8,D.int IntKind.i64 i16]) fun r20=>
            asI IntKind.i64 r20 fun i21=>
            zar (zam [D.sl t18 l19]) fun r22=>
            za4 r22 fun l23=>
            sif ((0:Int)≤i21) <|
            sif (Int.toNat i21 < List.length l13) <|
            sif ((0:Nat)+List.length l23≤List.length l23) <|
            getK l13 ((0:Nat)+Int.toNat i21) fun d24=>
            sif ((0:Nat)+List.length l23≤List.length l23) <|
            sif (D.isAgg d24=false) <|
            letN (IntKind.wrap IntKind.i64 (i16+(1:Int))) fun n25=>
            sif (List.length l13=List.length (List.set l13 ((0:Nat)+Int.toNat i21) (D.sl Tag.fresh (cut (0:Nat) (List.length l23) l23)))) <|
            again7 (((i8,l9,(i10,i11,i12,PUnit.unit),List.set l13 ((0:Nat)+Int.toNat i21) (D.sl Tag.fresh (cut (0:Nat) (List.length l23) l23)),l14,i15,n25,PUnit.unit),PUnit.unit)))
            (zar (zaJ [D.agg [D.int IntKind.i64 i10,D.int IntKind.i64 i11,D.int IntKind.i64 i12],D.int IntKind.i64 i8]) fun r26=>
            zd5 r26 fun ts27=>
            zaw ([Lf.any,Lf.any]) ts27 fun c28=>
            asI IntKind.i64 c28.fst fun i29=>
            asI IntKind.i64 c28.snd.fst fun i30=>
            zar (zbU [D.sl Tag.lent l9]) fun r31=>
            za4 r31 fun l32=>
            sif ((0:Int)≤i29) <|
            sif (Int.toNat i29 < List.length l13) <|
            sif ((0:Nat)+List.length l32≤List.length l32) <|
            getK l13 ((0:Nat)+Int.toNat i29) fun d33=>
            sif ((0:Nat)+List.length l32≤List.length l32) <|
            sif (D.isAgg d33=false) <|
            brK (decide (i30≥(0:Int)))
              (zar (zbV [D.sl Tag.lent l9]) fun r34=>
              za4 r34 fun l35=>
              sif ((0:Int)≤i30) <|
              sif (Int.toNat i30 < List.length l13) <|
              sif ((0:Nat)+List.length l35≤List.length l35) <|
              getK (List.set l13 ((0:Nat)+Int.toNat i29) (D.sl Tag.fresh (cut (0:Nat) (List.length l32) l32))) ((0:Nat)+Int.toNat i30) fun d36=>
              sif ((0:Nat)+List.length l35≤List.length l35) <|
              sif (D.isAgg d36=false) <|
              sif (List.length l13=List.length (List.set (List.set l13 ((0:Nat)+Int.toNat i29) (D.sl Tag.fresh (cut (0:Nat) (List.length l32) l32))) ((0:Nat)+Int.toNat i30) (D.sl Tag.fresh (cut (0:Nat) (List.length l35) l35)))) <|
              sif (List.all (List.set (List.set l13 ((0:Nat)+Int.toNat i29) (D.sl Tag.fresh (cut (0:Nat) (List.length l32) l32))) ((0:Nat)+Int.toNat i30) (D.sl Tag.fresh (cut (0:Nat) (List.length l35) l35))) D.free=true) <|
              some (D.tup [D.sl Tag.own (List.set (List.set l13 ((0:Nat)+Int.toNat i29) (D.sl Tag.fresh (cut (0:Nat) (List.length l32) l32))) ((0:Nat)+Int.toNat i30) (D.sl Tag.fresh (cut (0:Nat) (List.length l35) l35))),D.bool true]))
              (sif (List.length l13=List.length (List.set l13 ((0:Nat)+Int.toNat i29) (D.sl Tag.fresh (cut (0:Nat) (List.length l32) l32)))) <|
              sif (List.all (List.set l13 ((0:Nat)+Int.toNat i29) (D.sl Tag.fresh (cut (0:Nat) (List.length l32) l32))) D.free=true) <|
              some (D.tup [D.sl Tag.own (List.set l13 ((0:Nat)+Int.toNat i29) (D.sl Tag.fresh (cut (0:Nat) (List.length l32) l32))),D.bool true]))))
          (((a1,a2,(a0_0,a0_1,a0_2,PUnit.unit),List.replicate (Int.toNat a0_1) (D.sl Tag.nil []),a2,(↑(List.length a2):Int),(0:Int),PUnit.unit),PUnit.unit)))))
theorem zy1 (zcy:List D→Option D) (zaS:List D→Option D) (zb8:List D→Option D) (zbm:List D→Option D) (zam:List D→Option D) (zaJ:List D→Option D) (zbU:List D→Option D) (zbV:List D→Option D) (tga2:Tag) (a0_0:Int) (a0_1:Int) (a0_2:Int) (a1:Int) (a2:List D):denP Try.prog (zay [(ID.row_in,(.pure [0] zcy)),(ID.geom_Width,(.pure [0] zaS)),(ID.row_sectors,(.pure [0] zb8)),(ID.place_Disk,(.pure [0] zbm)),(ID.slices_Clone_byte_byte,(.pure [1] zam)),(ID.place_Parity,(.pure [0,0] zaJ)),(ID.synd_P,(.pure [1] zbU)),(ID.synd_Q,(.pure [1] zbV))]) zph [1,0] ID.row_Fill [.agg [.int .i64 a0_0,.int .i64 a0_1,.int .i64 a0_2],.int .i64 a1,.sl tga2 a2]=zoE zcy zaS zb8 zbm zam zaJ zbU zbV a0_0 a0_1 a0_2 a1 (D.lentL a2):=by kernel_rfl
theorem zui (tga2:Tag) (a0_0:Int) (a0_1:Int) (a0_2:Int) (a1:Int) (a2:List D):zbT [.agg [.int .i64 a0_0,.int .i64 a0_1,.int .i64 a0_2],.int .i64 a1,.sl tga2 a2]=zoE zcy zaS zb8 zbm zam zaJ zbU zbV a0_0 a0_1 a0_2 a1 (D.lentL a2):=zy1 zcy zaS zb8 zbm zam zaJ zbU zbV tga2 a0_0 a0_1 a0_2 a1 a2
def zcA:Ann:={ loops:=[] }
noncomputable def zad:List D→Option D:=denE Try.prog (zay []) zcA [33] ID.slices_Clone_disk_write_disk_write
theorem zdK:za7 Try.prog ID.slices_Clone_disk_write_disk_write (.pure [33] zad):=zsx (zaC []) zbB ⟨Try.f121,by kernel_rfl,by kernel_rfl,by kernel_rfl⟩
noncomputable def zcv:Fact Try.prog:=⟨ID.slices_Clone_disk_write_disk_write,(.pure [33] zad),zdK⟩
noncomputable def zb7 (a0:D) (b0:List D):Option D:=
  sif (List.length (a0::b0)≤(4294967296:Nat)) <|
  sif (zeb (33:Nat) (a0::b0)=true) <|
  sif (List.length (a0::b0)=List.length (a0::b0)) <|
  sif (List.all (a0::b0) D.free=true) <|
  some (D.sl Tag.own (a0::b0))
theorem zep (tga0:Tag) (a0:D) (b0:List D):denE Try.prog (zay []) zcA [33] ID.slices_Clone_disk_write_disk_write [.sl tga0 (a0::b0)]=zb7 (D.lent a0) (D.lentL b0):=by kernel_rfl
theorem zdU (tga0:Tag) (a0:D) (b0:List D):zad [.sl tga0 (a0::b0)]=zb7 (D.lent a0) (D.lentL b0):=zep tga0 a0 b0
theorem zdL (tg:Tag):zad [.sl tg []]=some (.sl .own []):=(zo9 (some (.sl .own [])))
def zg2:Ann:={ loops:=[],pubs:=[(2,[(3,119,7649)])],ks:=[(7649,true)] }
noncomputable def zby:List D→List Tb→Option Ans:=denS Try.prog (zay [(ID.slices_Clone_disk_write_disk_write,(.pure [33] zad))]) zg2 [0] ID.disk_Disk_Clone
theorem zkB:za7 Try.prog ID.disk_Disk_Clone (.st [] [0] [(7649,true)] zby):=zbc (zaC [zcv]) zbB ⟨Try.f93,by kernel_rfl,by kernel_rfl,by kernel_rfl⟩
noncomputable def zlD:Fact Try.prog:=⟨ID.disk_Disk_Clone,(.st [] [0] [(7649,true)] zby),zkB⟩
noncomputable def zfx (zad:List D→Option D) (a0:Nat) (T0:Tb):Option Ans:=
  getK T0 a0 fun d1=>
  sif ((1666:Nat)≤List.length d1) <|
  sif (List.length (List.map D.hide (List.take (1666:Nat) (List.drop (0:Nat) d1)))=(1666:Nat)) <|
  getK T0 a0 fun d2=>
  getK d2 ((1664:Nat)) fun d3=>
  za4 d3 fun l4=>
  getK T0 a0 fun d5=>
  getK d5 ((1664:Nat)) fun d6=>
  za4 d6 fun l7=>
  sif ((0:Nat)+List.length l4≤List.length l7) <|
  zar (zad [D.sl Tag.lent (cut (0:Nat) (List.length l4) l7)]) fun r8=>
  za4 r8 fun l9=>
  sif ((0:Nat)+List.length l9≤List.length l9) <|
  sif ((1664:Nat) < List.length (spl (0:Nat) (1666:Nat) (List.reverse ([D.bool false,D.sl Tag.nil []]++List.replicate 1664 (D.int IntKind.u8 (0:Int)))) (List.map D.hide (List.take (1666:Nat) (List.drop (0:Nat) d1))))) <|
  sif (some (1666:Nat)=some (List.length (spl (0:Nat) (1666:Nat) (List.reverse ([D.bool false,D.sl Tag.nil []]++List.replicate 1664 (D.int IntKind.u8 (0:Int)))) (List.map D.hide (List.take (1666:Nat) (List.drop (0:Nat) d1)))))) <|
  sif (List.length l9=List.length l9) <|
  sif (zdf l9=true) <|
  sif (zfJ (33:Nat) l9=true) <|
  sif (List.all (List.set (spl (0:Nat) (1666:Nat) (List.reverse ([D.bool false,D.sl Tag.nil []]++List.replicate 1664 (D.int IntKind.u8 (0:Int)))) (List.map D.hide (List.take (1666:Nat) (List.drop (0:Nat) d1)))) (1664:Nat) D.nilp) D.own0ok=true) <|
  sif ((true && decide ((1:Nat)=(1:Nat)) && List.all [(1664:Nat)] fun k=>decide (k < List.length (spl (0:Nat) (1666:Nat) (List.reverse ([D.bool false,D.sl Tag.nil []]++List.replicate 1664 (D.int IntKind.u8 (0:Int)))) (List.map D.hide (List.take (1666:Nat) (List.drop (0:Nat) d1))))))=true) <|
  letT (T0++[List.set (List.map D.own0 (spl (0:Nat) (1666:Nat) (List.reverse ([D.bool false,D.sl Tag.nil []]++List.replicate 1664 (D.int IntKind.u8 (0:Int)))) (List.map D.hide (List.take (1666:Nat) (List.drop (0:Nat) d1))))) (1664:Nat) (D.sl Tag.own l9)]) fun U10=>
  some (Ans.mk (D.h (7649:Nat) (List.length T0) (0:Nat)) [] [U10])
theorem zoF (zad:List D→Option D) (a0:Nat) (T0:Tb):denS Try.prog (zay [(ID.slices_Clone_disk_write_disk_write,(.pure [33] zad))]) zg2 [0] ID.disk_Disk_Clone [.h 7649 a0 0] [T0]=zfx zad a0 T0:=by kernel_rfl
theorem zlE (a0:Nat) (T0:Tb):zby [.h 7649 a0 0] [T0]=zfx zad a0 T0:=zoF zad a0 T0
def zim:Ann:={ loops:=[],ks:=[(7649,false)] }
noncomputable def zaW:List D→List Tb→Option Ans:=denS Try.prog (zay [(ID.disk_Disk_may,(.st [] [0] [(7649,false)] zaV))]) zim [0,0] ID.disk_Disk_put
theorem zmF:za7 Try.prog ID.disk_Disk_put (.st [] [0,0] [(7649,false)] zaW):=zbc (zaC [zhr]) zbB ⟨Try.f124,by kernel_rfl,by kernel_rfl,by kernel_rfl⟩
noncomputable def zht:Fact Try.prog:=⟨ID.disk_Disk_put,(.st [] [0,0] [(7649,false)] zaW),zmF⟩
noncomputable def zg3 (zaV:List D→List Tb→Option Ans) (a0:Nat) (a1:Int) (a2:List D) (T0:Tb):Option Ans:=
  zar (zaV [D.h (7649:Nat) a0 (0:Nat),D.int IntKind.i64 a1] [T0]) fun r1=>
  nilK r1.outs <|
  nilK r1.tbs <|
  asI IntKind.i64 r1.r fun i2=>
  brK (i2 != (0:Int))
    (some (Ans.mk (D.tup [D.agg [D.int IntKind.i64 (0:Int),D.int IntKind.u8 (0:Int),D.int IntKind.u8 (0:Int),D.int IntKind.u8 (0:Int),D.int IntKind.u8 (0:Int),D.int IntKind.u8 (0:Int),D.int IntKind.u8 (0:Int),D.int IntKind.u8 (0:Int),D.int IntKind.u8 (0:Int),D.int IntKind.u8 (0:Int),D.int IntKind.u8 (0:Int),D.int IntKind.u8 (0:Int),D.int IntKind.u8 (0:Int),D.int IntKind.u8 (0:Int),D.int IntKind.u8 (0:Int),D.int IntKind.u8 (0:Int),D.int IntKind.u8 (0:Int),D.int IntKind.u8 (0:Int),D.int IntKind.u8 (0:Int),D.int IntKind.u8 (0:Int),D.int IntKind.u8 (0:Int),D.int IntKind.u8 (0:Int),D.int IntKind.u8 (0:Int),D.int IntKind.u8 (0:Int),D.int IntKind.u8 (0:Int),D.int IntKind.u8 (0:Int),D.int IntKind.u8 (0:Int),D.int IntKind.u8 (0:Int),D.int IntKind.u8 (0:Int),D.int IntKind.u8 (0:Int),D.int IntKind.u8 (0:Int),D.int IntKind.u8 (0:Int),D.int IntKind.u8 (0:Int)],D.int IntKind.i64 i2]) [] []))
    (brK ((↑(List.length a2):Int) != (32:Int))
      (some (Ans.mk (D.tup [D.agg [D.int IntKind.i64 (0:Int),D.int IntKind.u8 (0:Int),D.int IntKind.u8 (0:Int),D.int IntKind.u8 (0:Int),D.int IntKind.u8 (0:Int),D.int IntKind.u8 (0:Int),D.int IntKind.u8 (0:Int),D.int IntKind.u8 (0:Int),D.int IntKind.u8 (0:Int),D.int IntKind.u8 (0:Int),D.int IntKind.u8 (0:Int),D.int IntKind.u8 (0:Int),D.int IntKind.u8 (0:Int),D.int IntKind.u8 (0:Int),D.int IntKind.u8 (0:Int),D.int IntKind.u8 (0:Int),D.int IntKind.u8 (0:Int),D.int IntKind.u8 (0:Int),D.int IntKind.u8 (0:Int),D.int IntKind.u8 (0:Int),D.int IntKind.u8 (0:Int),D.int IntKind.u8 (0:Int),D.int IntKind.u8 (0:Int),D.int IntKind.u8 (0:Int),D.int IntKind.u8 (0:Int),D.int IntKind.u8 (0:Int),D.int IntKind.u8 (0:Int),D.int IntKind.u8 (0:Int),D.int IntKind.u8 (0:Int),D.int IntKind.u8 (0:Int),D.int IntKind.u8 (0:Int),D.int IntKind.u8 (0:Int),D.int IntKind.u8 (0:Int)],D.int IntKind.i64 (1:Int)]) [] []))
      (sif (cells a2=true) <|
      sif (List.length a2=(32:Nat)) <|
      sif ((33:Nat)≤List.length ([D.int IntKind.i64 a1]++(a2++[]))) <|
      zaw ([Lf.int IntKind.i64,Lf.arr (32)]) (List.take (33:Nat) (List.drop (0:Nat) ([D.int IntKind.i64 a1]++(a2++[])))) fun c3=>
      sif (List.length ([D.int IntKind.i64 c3.fst]++(c3.snd.fst++[]))=(33:Nat)) <|
      sif ((33:Nat)≤List.length ([D.int IntKind.i64 c3.fst]++(c3.snd.fst++[]))) <|
      zaw ([Lf.int IntKind.i64,Lf.arr (32)]) (List.take (33:Nat) (List.drop (0:Nat) ([D.int IntKind.i64 c3.fst]++(c3.snd.fst++[])))) fun c4=>
      sif (D.free (D.agg ([D.int IntKind.i64 c4.fst]++(c4.snd.fst++[])))=true) <|
      some (Ans.mk (D.tup [D.agg ([D.int IntKind.i64 c4.fst]++(c4.snd.fst++[])),D.int IntKind.i64 (0:Int)]) [] [])))
theorem zrh (zaV:List D→List Tb→Option Ans) (tga2:Tag) (a0:Nat) (a1:Int) (a2:List D) (T0:Tb):denS Try.prog (zay [(ID.disk_Disk_may,(.st [] [0] [(7649,false)] zaV))]) zim [0,0] ID.disk_Disk_put [.h 7649 a0 0,.int .i64 a1,.sl tga2 a2] [T0]=zg3 zaV a0 a1 (D.lentL a2) T0:=by kernel_rfl
theorem znJ (tga2:Tag) (a0:Nat) (a1:Int) (a2:List D) (T0:Tb):zaW [.h 7649 a0 0,.int .i64 a1,.sl tga2 a2] [T0]=zg3 zaV a0 a1 (D.lentL a2) T0:=zrh zaV tga2 a0 a1 a2 T0
def zg4:Ann:={ loops:=[],ks:=[(7649,true)] }
noncomputable def zbo:List D→List Tb→Option Ans:=denS Try.prog (zay [(ID.disk_Disk_put,(.st [] [0,0] [(7649,false)] zaW))]) zg4 [0] ID.disk_Disk_Write
theorem zkC:za7 Try.prog ID.disk_Disk_Write (.st [] [0] [(7649,true)] zbo):=zbc (zaC [zht]) zbB ⟨Try.f112,by kernel_rfl,by kernel_rfl,by kernel_rfl⟩
noncomputable def zlF:Fact Try.prog:=⟨ID.disk_Disk_Write,(.st [] [0] [(7649,true)] zbo),zkC⟩
noncomputable def zfy (zaW:List D→List Tb→Option Ans) (a0:Nat) (a1:Int) (a2:List D) (T0:Tb):Option Ans:=
  zar (zaW [D.h (7649:Nat) a0 (0:Nat),D.int IntKind.i64 a1,D.sl Tag.lent a2] [T0]) fun r1=>
  nilK r1.outs <|
  nilK r1.tbs <|
  zd5 r1.r fun ts2=>
  zaw ([Lf.any,Lf.any]) ts2 fun c3=>
  asAgg c3.fst fun cs4=>
  zaw ([Lf.int IntKind.i64,Lf.arr (32)]) cs4 fun c5=>
  asI IntKind.i64 c3.snd.fst fun i6=>
  sif (List.length ([D.int IntKind.i64 c5.fst]++(c5.snd.fst++[]))=(33:Nat)) <|
  brK (i6 == (0:Int))
    (getK T0 a0 fun d7=>
    getK d7 ((1664:Nat)) fun d8=>
    za4 d8 fun l9=>
    sif ((33:Nat)≤List.length ([D.int IntKind.i64 c5.fst]++(c5.snd.fst++[]))) <|
    zaw ([Lf.int IntKind.i64,Lf.arr (32)]) (List.take (33:Nat) (List.drop (0:Nat) ([D.int IntKind.i64 c5.fst]++(c5.snd.fst++[])))) fun c10=>
    sif (zeb (33:Nat) [D.agg ([D.int IntKind.i64 c10.fst]++(c10.snd.fst++[]))]=true) <|
    getK T0 a0 fun d11=>
    getK d11 ((1664:Nat)) fun d12=>
    za4 d12 fun l13=>
    sif (List.length l9+(1:Nat)≤(4294967296:Nat)) <|
    sif (zeb (33:Nat) [D.agg ([D.int IntKind.i64 c10.fst]++(c10.snd.fst++[]))]=true) <|
    sif (List.length l9=List.length l13) <|
    letT (setT T0 a0 (1664:Nat) D.undef) fun U14=>
    getK U14 a0 fun d15=>
    sif ((1665:Nat)≤List.length d15) <|
    sif (List.length l9+(1:Nat)=List.length (l13++[D.agg ([D.int IntKind.i64 c10.fst]++(c10.snd.fst++[]))])) <|
    sif (zdf (l13++[D.agg ([D.int IntKind.i64 c10.fst]++(c10.snd.fst++[]))])=true) <|
    sif (zfJ (33:Nat) (l13++[D.agg ([D.int IntKind.i64 c10.fst]++(c10.snd.fst++[]))])=true) <|
    letT (zaZ U14 a0 (1664:Nat) [D.sl Tag.own (l13++[D.agg ([D.int IntKind.i64 c10.fst]++(c10.snd.fst++[]))])]) fun U16=>
    some (Ans.mk (D.int IntKind.i64 i6) [] [U16]))
    (some (Ans.mk (D.int IntKind.i64 i6) [] [T0]))
theorem zoG (zaW:List D→List Tb→Option Ans) (tga2:Tag) (a0:Nat) (a1:Int) (a2:List D) (T0:Tb):denS Try.prog (zay [(ID.disk_Disk_put,(.st [] [0,0] [(7649,false)] zaW))]) zg4 [0] ID.disk_Disk_Write [.h 7649 a0 0,.int .i64 a1,.sl tga2 a2] [T0]=zfy zaW a0 a1 (D.lentL a2) T0:=by kernel_rfl
theorem zlG (tga2:Tag) (a0:Nat) (a1:Int) (a2:List D) (T0:Tb):zbo [.h 7649 a0 0,.int .i64 a1,.sl tga2 a2] [T0]=zfy zaW a0 a1 (D.lentL a2) T0:=zoG zaW tga2 a0 a1 a2 T0
def ze0:Ann:={ loops:=[],ks:=[(3840,true)] }
noncomputable def za5:List D→List Tb→Option Ans:=denS Try.prog (zay []) ze0 [0] ID.bench_counter_count
theorem zhJ:za7 Try.prog ID.bench_counter_count (.st [] [0] [(3840,true)] za5):=zbc (zaC []) zbB ⟨Try.f113,by kernel_rfl,by kernel_rfl,by kernel_rfl⟩
noncomputable def zin:Fact Try.prog:=⟨ID.bench_counter_count,(.st [] [0] [(3840,true)] za5),zhJ⟩
noncomputable def zdV (a0:Nat) (T0:Tb):Option Ans:=
  getK T0 a0 fun d1=>
  getK d1 ((1:Nat)) fun d2=>
  asI IntKind.i64 d2 fun i3=>
  brK (i3 == (0:Int))
    (getK T0 a0 fun d4=>
    sif ((3:Nat)≤List.length d4) <|
    sif (zhy (List.take (1:Nat) (List.drop (2:Nat) d4))=true) <|
    letT (zaZ T0 a0 (2:Nat) [D.bool true]) fun U5=>
    some (Ans.mk (D.bool false) [] [U5]))
    (getK T0 a0 fun d6=>
    getK d6 ((1:Nat)) fun d7=>
    asI IntKind.i64 d7 fun i8=>
    brK (decide (i8 > (0:Int)))
      (getK T0 a0 fun d9=>
      getK d9 ((1:Nat)) fun d10=>
      asI IntKind.i64 d10 fun i11=>
      letN (IntKind.wrap IntKind.i64 (i11 - (1:Int))) fun n12=>
      getK T0 a0 fun d13=>
      sif ((2:Nat)≤List.length d13) <|
      sif (zhy (List.take (1:Nat) (List.drop (1:Nat) d13))=true) <|
      letT (zaZ T0 a0 (1:Nat) [D.int IntKind.i64 n12]) fun U14=>
      getK U14 a0 fun d15=>
      getK d15 ((0:Nat)) fun d16=>
      asI IntKind.i64 d16 fun i17=>
      letN (IntKind.wrap IntKind.i64 (i17+(1:Int))) fun n18=>
      getK U14 a0 fun d19=>
      sif ((1:Nat)≤List.length d19) <|
      sif (zhy (List.take (1:Nat) (List.drop (0:Nat) d19))=true) <|
      letT (zaZ U14 a0 (0:Nat) [D.int IntKind.i64 n18]) fun U20=>
      some (Ans.mk (D.bool true) [] [U20]))
      (getK T0 a0 fun d21=>
      getK d21 ((0:Nat)) fun d22=>
      asI IntKind.i64 d22 fun i23=>
      letN (IntKind.wrap IntKind.i64 (i23+(1:Int))) fun n24=>
      getK T0 a0 fun d25=>
      sif ((1:Nat)≤List.length d25) <|
      sif (zhy (List.take (1:Nat) (List.drop (0:Nat) d25))=true) <|
      letT (zaZ T0 a0 (0:Nat) [D.int IntKind.i64 n24]) fun U26=>
      some (Ans.mk (D.bool true) [] [U26])))
theorem zkD (a0:Nat) (T0:Tb):denS Try.prog (zay []) ze0 [0] ID.bench_counter_count [.h 3840 a0 0] [T0]=zdV a0 T0:=by kernel_rfl
theorem zio (a0:Nat) (T0:Tb):za5 [.h 3840 a0 0] [T0]=zdV a0 T0:=zkD a0 T0
def zfV:Ann:={ loops:=[],ks:=[(3840,true),(7649,true)] }
noncomputable def zaG:List D→List Tb→Option Ans:=denS Try.prog (zay [(ID.bench_Bench_may,(.st [] [0] [(3840,false)] zav)),(ID.disk_Disk_Clone,(.st [] [0] [(7649,true)] zby)),(ID.disk_Disk_Write,(.st [] [0] [(7649,true)] zbo)),(ID.bench_counter_count,(.st [] [0] [(3840,true)] za5))]) zfV [0] ID.bench_Bench_Write
theorem zi2:za7 Try.prog ID.bench_Bench_Write (.st [] [0] [(3840,true),(7649,true)] zaG):=zbc (zaC [zef,zlD,zlF,zin]) zbB ⟨Try.f78,by kernel_rfl,by kernel_rfl,by kernel_rfl⟩
noncomputable def zjB:Fact Try.prog:=⟨ID.bench_Bench_Write,(.st [] [0] [(3840,true),(7649,true)] zaG),zi2⟩
noncomputable def zeB (zav:List D→List Tb→Option Ans) (zby:List D→List Tb→Option Ans) (zbo:List D→List Tb→Option Ans) (za5:List D→List Tb→Option Ans) (a0:Nat) (a1:Int) (a2:Int) (a3:List D) (T0:Tb) (T1:Tb):Option Ans:=
  zar (zav [D.h (3840:Nat) a0 (0:Nat),D.int IntKind.i64 a1] [T0]) fun r1=>
  nilK r1.outs <|
  nilK r1.tbs <|
  asI IntKind.i64 r1.r fun i2=>
  brK (i2 != (0:Int))
    (some (Ans.mk (D.int IntKind.i64 i2) [] [T0,T1]))
    (getK T0 a0 fun d3=>
    getK d3 ((3:Nat)) fun d4=>
    za4 d4 fun l5=>
    getK T0 a0 fun d6=>
    getK d6 ((3:Nat)) fun d7=>
    za4 d7 fun l8=>
    sif ((0:Int)≤a1) <|
    sif (Int.toNat a1 < List.length l5) <|
    getK T0 a0 fun d9=>
    getK d9 ((3:Nat)) fun d10=>
    za4 d10 fun l11=>
    getK l11 ((0:Nat)+Int.toNat a1) fun d12=>
    sif (D.isAgg d12=false) <|
    sif (D.width d12=(1:Nat)) <|
    sif (D.cell d12=true) <|
    zar (zby [d12] [T1]) fun r13=>
    nilK r13.outs <|
    zcq r13.tbs fun c14 q15=>
    nilK q15 <|
    sif (zh7 r13.r=true) <|
    zar (zbo [r13.r,D.int IntKind.i64 a2,D.sl Tag.lent a3] [c14]) fun r16=>
    nilK r16.outs <|
    zcq r16.tbs fun c17 q18=>
    nilK q18 <|
    asI IntKind.i64 r16.r fun i19=>
    brK (i19 != (0:Int))
      (some (Ans.mk (D.int IntKind.i64 i19) [] [T0,c17]))
      (zar (za5 [D.h (3840:Nat) a0 (0:Nat)] [T0]) fun r20=>
      nilK r20.outs <|
      zcq r20.tbs fun c21 q22=>
      nilK q22 <|
      asB r20.r fun b23=>
      brK (!b23)
        (some (Ans.mk (D.int IntKind.i64 (6:Int)) [] [c21,c17]))
        (getK c21 a0 fun d24=>
        getK d24 ((3:Nat)) fun d25=>
        za4 d25 fun l26=>
        getK c21 a0 fun d27=>
        getK d27 ((3:Nat)) fun d28=>
        za4 d28 fun l29=>
        sif ((0:Int)≤a1) <|
        sif (Int.toNat a1 < List.length l26) <|
        getK c21 a0 fun d30=>
        getK d30 ((3:Nat)) fun d31=>
        za4 d31 fun l32=>
        getK l32 ((0:Nat)+Int.toNat a1) fun d33=>
        sif (D.isAgg d33=false) <|
        sif (D.width d33=(1:Nat)) <|
        sif (D.cell d33=true) <|
        zar (zbo [d33,D.int IntKind.i64 a2,D.sl Tag.lent a3] [c17]) fun r34=>
        nilK r34.outs <|
        zcq r34.tbs fun c35 q36=>
        nilK q36 <|
        asI IntKind.i64 r34.r fun i37=>
        some (Ans.mk (D.int IntKind.i64 i37) [] [c21,c35]))))
theorem zmG (zav:List D→List Tb→Option Ans) (zby:List D→List Tb→Option Ans) (zbo:List D→List Tb→Option Ans) (za5:List D→List Tb→Option Ans) (tga3:Tag) (a0:Nat) (a1:Int) (a2:Int) (a3:List D) (T0:Tb) (T1:Tb):denS Try.prog (zay [(ID.bench_Bench_may,(.st [] [0] [(3840,false)] zav)),(ID.disk_Disk_Clone,(.st [] [0] [(7649,true)] zby)),(ID.disk_Disk_Write,(.st [] [0] [(7649,true)] zbo)),(ID.bench_counter_count,(.st [] [0] [(3840,true)] za5))]) zfV [0] ID.bench_Bench_Write [.h 3840 a0 0,.int .i64 a1,.int .i64 a2,.sl tga3 a3] [T0,T1]=zeB zav zby zbo za5 a0 a1 a2 (D.lentL a3) T0 T1:=by kernel_rfl
theorem zjC (tga3:Tag) (a0:Nat) (a1:Int) (a2:Int) (a3:List D) (T0:Tb) (T1:Tb):zaG [.h 3840 a0 0,.int .i64 a1,.int .i64 a2,.sl tga3 a3] [T0,T1]=zeB zav zby zbo za5 a0 a1 a2 (D.lentL a3) T0 T1:=zmG zav zby zbo za5 tga3 a0 a1 a2 a3 T0 T1
def zkE:Ann:={ loops:=[],ks:=[(3840,true),(7649,true)] }
noncomputable def zbD:List D→List Tb→Option Ans:=denS Try.prog (zay [(ID.stripe_Read,(.st [] [1,0] [(3840,false),(7649,false)] zb0)),(ID.row_Fill,(.pure [1,0] zbT)),(ID.bench_Bench_Write,(.st [] [0] [(3840,true),(7649,true)] zaG))]) zkE [0] ID.rebuild_one
theorem zoH:za7 Try.prog ID.rebuild_one (.st [] [0] [(3840,true),(7649,true)] zbD):=zbc (zaC [zpz,zuh,zjB]) zbB ⟨Try.f92,by kernel_rfl,by kernel_rfl,by kernel_rfl⟩
noncomputable def zpD:Fact Try.prog:=⟨ID.rebuild_one,(.st [] [0] [(3840,true),(7649,true)] zbD),zoH⟩
noncomputable def zi3 (zb0:List D→List Tb→Option Ans) (zbT:List D→Option D) (zaG:List D→List Tb→Option Ans) (a0:Nat) (a1:List D) (a2:Int) (a3_0:Int) (a3_1:Int) (a3_2:Int) (a4:Int) (T0:Tb) (T1:Tb):Option Ans:=
  zar (zb0 [D.h (3840:Nat) a0 (0:Nat),D.sl Tag.lent a1,D.agg [D.int IntKind.i64 a3_0,D.int IntKind.i64 a3_1,D.int IntKind.i64 a3_2],D.int IntKind.i64 a4] [T0,T1]) fun r1=>
  nilK r1.outs <|
  nilK r1.tbs <|
  zd5 r1.r fun ts2=>
  zaw ([Lf.any,Lf.any]) ts2 fun c3=>
  za4 c3.fst fun l4=>
  asI IntKind.i64 c3.snd.fst fun i5=>
  brK (i5 != (0:Int))
    (some (Ans.mk (D.int IntKind.i64 i5) [] [T0,T1]))
    (sif ((0:Nat)+List.length l4≤List.length l4) <|
    zar (zbT [D.agg [D.int IntKind.i64 a3_0,D.int IntKind.i64 a3_1,D.int IntKind.i64 a3_2],D.int IntKind.i64 a4,D.sl Tag.lent (cut (0:Nat) (List.length l4) l4)]) fun r6=>
    zd5 r6 fun ts7=>
    zaw ([Lf.any,Lf.any]) ts7 fun c8=>
    za4 c8.fst fun l9=>
    asB c8.snd.fst fun b10=>
    letN (IntKind.wrap IntKind.i64 ((36:Int)+a4)) fun n11=>
    sif ((0:Int)≤a2) <|
    sif (Int.toNat a2 < List.length l9) <|
    getK l9 ((0:Nat)+Int.toNat a2) fun d12=>
    asSl d12 fun t13 l14=>
    zar (zaG [D.h (3840:Nat) a0 (0:Nat),D.int IntKind.i64 a2,D.int IntKind.i64 n11,D.sl t13 l14] [T0,T1]) fun r15=>
    nilK r15.outs <|
    zcq r15.tbs fun c16 q17=>
    zcq q17 fun c18 q19=>
    nilK q19 <|
    asI IntKind.i64 r15.r fun i20=>
    some (Ans.mk (D.int IntKind.i64 i20) [] [c16,c18]))
theorem zuj (zb0:List D→List Tb→Option Ans) (zbT:List D→Option D) (zaG:List D→List Tb→Option Ans) (tga1:Tag) (a0:Nat) (a1:List D) (a2:Int) (a3_0:Int) (a3_1:Int) (a3_2:Int) (a4:Int) (T0:Tb) (T1:Tb):denS Try.prog (zay [(ID.stripe_Read,(.st [] [1,0] [(3840,false),(7649,false)] zb0)),(ID.row_Fill,(.pure [1,0] zbT)),(ID.bench_Bench_Write,(.st [] [0] [(3840,true),(7649,true)] zaG))]) zkE [0] ID.rebuild_one [.h 3840 a0 0,.sl tga1 a1,.int .i64 a2,.agg [.int .i64 a3_0,.int .i64 a3_1,.int .i64 a3_2],.int .i64 a4] [T0,T1]=zi3 zb0 zbT zaG a0 (D.lentL a1) a2 a3_0 a3_1 a3_2 a4 T0 T1:=by kernel_rfl
theorem zpE (tga1:Tag) (a0:Nat) (a1:List D) (a2:Int) (a3_0:Int) (a3_1:Int) (a3_2:Int) (a4:Int) (T0:Tb) (T1:Tb):zbD [.h 3840 a0 0,.sl tga1 a1,.int .i64 a2,.agg [.int .i64 a3_0,.int .i64 a3_1,.int .i64 a3_2],.int .i64 a4] [T0,T1]=zi3 zb0 zbT zaG a0 (D.lentL a1) a2 a3_0 a3_1 a3_2 a4 T0 T1:=zuj zb0 zbT zaG tga1 a0 a1 a2 a3_0 a3_1 a3_2 a4 T0 T1
def zg5:Ann:={ loops:=[(1,[.val (.cell (.hnd (7649:Nat))),.dead,.dead,.dead,.dead,.dead,.dead,.dead,.dead,.dead,.dead,.dead,.view 7649 1664,.val (.cell (.int .i64)),.val (.cell (.int .i64))])],ks:=[(7649,true)] }
noncomputable def zbz:List D→List Tb→Option Ans:=denS Try.prog (zay []) zg5 [0] ID.disk_Disk_Flush
theorem zkF:za7 Try.prog ID.disk_Disk_Flush (.st [] [0] [(7649,true)] zbz):=zbc (zaC []) zbB ⟨Try.f114,by kernel_rfl,by kernel_rfl,by kernel_rfl⟩
noncomputable def zlH:Fact Try.prog:=⟨ID.disk_Disk_Flush,(.st [] [0] [(7649,true)] zbz),zkF⟩
noncomputable def zfz (a0:Nat) (T0:Tb):Option Ans:=
  getK T0 a0 fun d1=>
  getK d1 ((1665:Nat)) fun d2=>
  asB d2 fun b3=>
  brK b3
    (some (Ans.mk (D.int IntKind.i64 (5:Int)) [] [T0]))
    (getK T0 a0 fun d4=>
    getK d4 ((1664:Nat)) fun d5=>
    za4 d5 fun l6=>
    getK T0 a0 fun d7=>
    getK d7 ((1664:Nat)) fun d8=>
    za4 d8 fun l9=>
    sif ((0:Nat)+List.length l6≤List.length l9) <|
    zcd (α:=(Nat×(Nat×Nat×Nat)×Int×Int×PUnit)×List (List D)×PUnit) (fun again10 ((x11,((x12,(x13,x14)),(i15,(i16,_)))),(U17,_))=>
      brK (decide (i16 < i15))
        (getK U17 x12 fun d18=>
        getK d18 ((1664:Nat)) fun d19=>
        za4 d19 fun l20=>
        sif ((0:Int)≤i16) <|
        sif (Int.toNat i16 < x14) <|
        getK U17 x12 fun d21=>
        getK d21 ((1664:Nat)) fun d22=>
        za4 d22 fun l23=>
        getK l23 (x13+Int.toNat i16) fun d24=>
        asAgg d24 fun cs25=>
        zaw ([Lf.int IntKind.i64,Lf.arr (32)]) cs25 fun c26=>
        sif (D.width (D.agg ([D.int IntKind.i64 c26.fst]++(c26.snd.fst++[])))=(33:Nat)) <|
        sif (List.length ([D.int IntKind.i64 c26.fst]++(c26.snd.fst++[]))=(33:Nat)) <|
        sif ((33:Nat)≤List.length ([D.int IntKind.i64 c26.fst]++(c26.snd.fst++[]))) <|
        sif (List.length (List.take (32:Nat) (List.drop (1:Nat) ([D.int IntKind.i64 c26.fst]++(c26.snd.fst++[]))))=(32:Nat)) <|
        sif ((0:Int)≤c26.fst) <|
        sif (Int.toNat c26.fst < (52:Nat)) <|
        getK U17 x11 fun d27=>
        sif ((0:Nat)+Int.toNat c26.fst*(32:Nat)+(32:Nat)≤List.length d27) <|
        sif (List.length (List.take (32:Nat) (List.drop (1:Nat) ([D.int IntKind.i64 c26.fst]++(c26.snd.fst++[]))))=(32:Nat)) <|
        sif (zhy (List.take (32:Nat) (List.drop (1:Nat) ([D.int IntKind.i64 c26.fst]++(c26.snd.fst++[]))))=true) <|
        sif (zhy (List.take (32:Nat) (List.drop ((0:Nat)+Int.toNat c26.fst*(32:Nat)) d27))=true) <|
        letT (zaZ U17 x11 ((0:Nat)+Int.toNat c26.fst*(32:Nat)) (List.take (32:Nat) (List.drop (1:Nat) ([D.int IntKind.i64 c26.fst]++(c26.snd.fst++[]))))) fun U28=>
        letN (IntKind.wrap IntKind.i64 (i16+(1:Int))) fun n29=>
        again10 (((x11,(x12,x13,x14),i15,n29,PUnit.unit),U28,PUnit.unit)))
        (getK U17 x11 fun d30=>
        sif ((1665:Nat)≤List.length d30) <|
        letT (zaZ U17 x11 (1664:Nat) [D.sl Tag.own []]) fun U31=>
        some (Ans.mk (D.int IntKind.i64 (0:Int)) [] [U31])))
      (((a0,(a0,(0:Nat),List.length l6),(↑(List.length l6):Int),(0:Int),PUnit.unit),T0,PUnit.unit)))
theorem zoI (a0:Nat) (T0:Tb):denS Try.prog (zay []) zg5 [0] ID.disk_Disk_Flush [.h 7649 a0 0] [T0]=zfz a0 T0:=by kernel_rfl
theorem zlI (a0:Nat) (T0:Tb):zbz [.h 7649 a0 0] [T0]=zfz a0 T0:=zoI a0 T0
def zfW:Ann:={ loops:=[],ks:=[(3840,false),(7649,true)] }
noncomputable def zaB:List D→List Tb→Option Ans:=denS Try.prog (zay [(ID.bench_Bench_may,(.st [] [0] [(3840,false)] zav)),(ID.disk_Disk_Flush,(.st [] [0] [(7649,true)] zbz))]) zfW [0] ID.bench_Bench_Flush
theorem zi4:za7 Try.prog ID.bench_Bench_Flush (.st [] [0] [(3840,false),(7649,true)] zaB):=zbc (zaC [zef,zlH]) zbB ⟨Try.f79,by kernel_rfl,by kernel_rfl,by kernel_rfl⟩
noncomputable def zjD:Fact Try.prog:=⟨ID.bench_Bench_Flush,(.st [] [0] [(3840,false),(7649,true)] zaB),zi4⟩
noncomputable def zeC (zav:List D→List Tb→Option Ans) (zbz:List D→List Tb→Option Ans) (a0:Nat) (a1:Int) (T0:Tb) (T1:Tb):Option Ans:=
  zar (zav [D.h (3840:Nat) a0 (0:Nat),D.int IntKind.i64 a1] [T0]) fun r1=>
  nilK r1.outs <|
  nilK r1.tbs <|
  asI IntKind.i64 r1.r fun i2=>
  brK (i2 != (0:Int))
    (some (Ans.mk (D.int IntKind.i64 i2) [] [T1]))
    (getK T0 a0 fun d3=>
    getK d3 ((3:Nat)) fun d4=>
    za4 d4 fun l5=>
    getK T0 a0 fun d6=>
    getK d6 ((3:Nat)) fun d7=>
    za4 d7 fun l8=>
    sif ((0:Int)≤a1) <|
    sif (Int.toNat a1 < List.length l5) <|
    getK T0 a0 fun d9=>
    getK d9 ((3:Nat)) fun d10=>
    za4 d10 fun l11=>
    getK l11 ((0:Nat)+Int.toNat a1) fun d12=>
    sif (D.isAgg d12=false) <|
    sif (D.width d12=(1:Nat)) <|
    sif (D.cell d12=true) <|
    zar (zbz [d12] [T1]) fun r13=>
    nilK r13.outs <|
    zcq r13.tbs fun c14 q15=>
    nilK q15 <|
    asI IntKind.i64 r13.r fun i16=>
    some (Ans.mk (D.int IntKind.i64 i16) [] [c14]))
theorem zmH (zav:List D→List Tb→Option Ans) (zbz:List D→List Tb→Option Ans) (a0:Nat) (a1:Int) (T0:Tb) (T1:Tb):denS Try.prog (zay [(ID.bench_Bench_may,(.st [] [0] [(3840,false)] zav)),(ID.disk_Disk_Flush,(.st [] [0] [(7649,true)] zbz))]) zfW [0] ID.bench_Bench_Flush [.h 3840 a0 0,.int .i64 a1] [T0,T1]=zeC zav zbz a0 a1 T0 T1:=by kernel_rfl
theorem zjE (a0:Nat) (a1:Int) (T0:Tb) (T1:Tb):zaB [.h 3840 a0 0,.int .i64 a1] [T0,T1]=zeC zav zbz a0 a1 T0 T1:=zmH zav zbz a0 a1 T0 T1
def zjo:Ann:={ loops:=[(2,[.val (.cell (.hnd (3840:Nat))),.val (.cell .lent),.val (.cell (.int .i64)),.dead,.dead,.val (.cell (.int .i64)),.dead,.dead,.dead,.box true [(.int .i64),(.int .i64),(.int .i64)],.box true [(.int .i64),(.int .i64),(.int .i64)],.dead,.dead,.dead,.dead,.dead,.dead,.dead,.dead,.dead,.dead,.dead,.dead,.dead,.dead,.dead,.dead,.dead,.dead,.dead,.dead,.dead,.dead,.dead,.dead,.dead,.dead,.dead,.dead,.dead,.dead,.dead,.dead,.dead,.dead,.dead,.dead,.dead,.val (.cell (.int .i64))])],ks:=[(3840,true),(7649,true)] }
noncomputable def zaR:List D→List Tb→Option Ans:=denS Try.prog (zay [(ID.bench_Bench_Len,(.st [] [0] [(3840,false)] zau)),(ID.rebuild_may,(.pure [0] zbY)),(ID.bench_Bench_Failed,(.st [] [0] [(3840,false),(7649,false)] zaz)),(ID.rebuild_one,(.st [] [0] [(3840,true),(7649,true)] zbD)),(ID.bench_Bench_Flush,(.st [] [0] [(3840,false),(7649,true)] zaB))]) zjo [0] ID.rebuild_Disk
theorem znK:za7 Try.prog ID.rebuild_Disk (.st [] [0] [(3840,true),(7649,true)] zaR):=zbc (zaC [zga,zpm,zeX,zpD,zjD]) zbB ⟨Try.f48,by kernel_rfl,by kernel_rfl,by kernel_rfl⟩
noncomputable def ziq:Fact Try.prog:=⟨ID.rebuild_Disk,(.st [] [0] [(3840,true),(7649,true)] zaR),znK⟩
noncomputable def zhK (zau:List D→List Tb→Option Ans) (zbY:List D→Option D) (zaz:List D→List Tb→Option Ans) (zbD:List D→List Tb→Option Ans) (zaB:List D→List Tb→Option Ans) (a0:Nat) (a1:List D) (a2:Int) (a3_0:Int) (a3_1:Int) (a3_2:Int) (a4_0:Int) (a4_1:Int) (a4_2:Int) (a5:Int) (T0:Tb) (T1:Tb):Option Ans:=
  brK (decide (a2 < (0:Int)))
    (some (Ans.mk (D.int IntKind.i64 (1:Int)) [] [T0,T1]))
    (zar (zau [D.h (3840:Nat) a0 (0:Nat)] [T0]) fun r1=>
    nilK r1.outs <|
    nilK r1.tbs <|
    asI IntKind.i64 r1.r fun i2=>
    brK (decide (a2≥i2))
      (some (Ans.mk (D.int IntKind.i64 (1:Int)) [] [T0,T1]))
      (brK (decide (a2 < (↑(List.length a1):Int)))
        (sif ((0:Int)≤a2) <|
        getK a1 (Int.toNat a2) fun d3=>
        asB d3 fun b4=>
        brK b4
          (some (Ans.mk (D.int IntKind.i64 (1:Int)) [] [T0,T1]))
          (zar (zbY [D.agg [D.int IntKind.i64 a3_0,D.int IntKind.i64 a3_1,D.int IntKind.i64 a3_2],D.agg [D.int IntKind.i64 a4_0,D.int IntKind.i64 a4_1,D.int IntKind.i64 a4_2],D.int IntKind.i64 a5]) fun r5=>
          asB r5 fun b6=>
          brK (!b6)
            (some (Ans.mk (D.int IntKind.i64 (1:Int)) [] [T0,T1]))
            (zar (zaz [D.h (3840:Nat) a0 (0:Nat),D.int IntKind.i64 a2] [T0,T1]) fun r7=>
            nilK r7.outs <|
            nilK r7.tbs <|
            asB r7.r fun b8=>
            brK b8
              (some (Ans.mk (D.int IntKind.i64 (5:Int)) [] [T0,T1]))
              (zcd (α:=(Nat×List D×Int×Int×(Int×Int×Int×PUnit)×(Int×Int×Int×PUnit)×Int×PUnit)×List (List D)×List (List D)×PUnit) (fun again9 ((x10,(l11,(i12,(i13,((i14,(i15,(i16,_))),((i17,(i18,(i19,_))),(i20,_))))))),(U21,(U22,_)))=>
                brK (decide (i20 < (16:Int)))
                  (brK (decide (i20 < i13))
                    (brK (decide (i12≥i18))
                      (letN (IntKind.wrap IntKind.i64 (i20+(1:Int))) fun n23=>
                      again9 (((x10,l11,i12,i13,(i14,i15,i16,PUnit.unit),(i17,i18,i19,PUnit.unit),n23,PUnit.unit),U21,U22,PUnit.unit)))
                      (zar (zbD [D.h (3840) x10 (0:Nat),D.sl Tag.lent l11,D.int IntKind.i64 i12,D.agg [D.int IntKind.i64 i17,D.int IntKind.i64 i18,D.int IntKind.i64 i19],D.int IntKind.i64 i20] [U21,U22]) fun r24=>
                      nilK r24.outs <|
                      zcq r24.tbs fun c25 q26=>
                      zcq q26 fun c27 q28=>
                      nilK q28 <|
                      asI IntKind.i64 r24.r fun i29=>
                      brK (i29 != (0:Int))
                        (some (Ans.mk (D.int IntKind.i64 i29) [] [c25,c27]))
                        (letN (IntKind.wrap IntKind.i64 (i20+(1:Int))) fun n30=>
                        again9 (((x10,l11,i12,i13,(i14,i15,i16,PUnit.unit),(i17,i18,i19,PUnit.unit),n30,PUnit.unit),c25,c27,PUnit.unit)))))
                    (brK (decide (i12≥i15))
                      (letN (IntKind.wrap IntKind.i64 (i20+(1:Int))) fun n31=>
                      again9 (((x10,l11,i12,i13,(i14,i15,i16,PUnit.unit),(i17,i18,i19,PUnit.unit),n31,PUnit.unit),U21,U22,PUnit.unit)))
                      (zar (zbD [D.h (3840) x10 (0:Nat),D.sl Tag.lent l11,D.int IntKind.i64 i12,D.agg [D.int IntKind.i64 i14,D.int IntKind.i64 i15,D.int IntKind.i64 i16],D.int IntKind.i64 i20] [U21,U22]) fun r32=>
                      nilK r32.outs <|
                      zcq r32.tbs fun c33 q34=>
                      zcq q34 fun c35 q36=>
                      nilK q36 <|
                      asI IntKind.i64 r32.r fun i37=>
                      brK (i37 != (0:Int))
                        (some (Ans.mk (D.int IntKind.i64 i37) [] [c33,c35]))
                        (letN (IntKind.wrap IntKind.i64 (i20+(1:Int))) fun n38=>
                        again9 (((x10,l11,i12,i13,(i14,i15,i16,PUnit.unit),(i17,i18,i19,PUnit.unit),n38,PUnit.unit),c33,c35,PUnit.unit))))))
                  (zar (zaB [D.h (3840) x10 (0:Nat),D.int IntKind.i64 i12] [U21,U22]) fun r39=>
                  nilK r39.outs <|
                  zcq r39.tbs fun c40 q41=>
                  nilK q41 <|
                  asI IntKind.i64 r39.r fun i42=>
                  some (Ans.mk (D.int IntKind.i64 i42) [] [U21,c40])))
                (((a0,a1,a2,a5,(a3_0,a3_1,a3_2,PUnit.unit),(a4_0,a4_1,a4_2,PUnit.unit),(0:Int),PUnit.unit),T0,T1,PUnit.unit))))))
        (zar (zbY [D.agg [D.int IntKind.i64 a3_0,D.int IntKind.i64 a3_1,D.int IntKind.i64 a3_2],D.agg [D.int IntKind.i64 a4_0,D.int IntKind.i64 a4_1,D.int IntKind.i64 a4_2],D.int IntKind.i64 a5]) fun r43=>
        asB r43 fun b44=>
        brK (!b44)
          (some (Ans.mk (D.int IntKind.i64 (1:Int)) [] [T0,T1]))
          (zar (zaz [D.h (3840:Nat) a0 (0:Nat),D.int IntKind.i64 a2] [T0,T1]) fun r45=>
          nilK r45.outs <|
          nilK r45.tbs <|
          asB r45.r fun b46=>
          brK b46
            (some (Ans.mk (D.int IntKind.i64 (5:Int)) [] [T0,T1]))
            (zcd (α:=(Nat×List D×Int×Int×(Int×Int×Int×PUnit)×(Int×Int×Int×PUnit)×Int×PUnit)×List (List D)×List (List D)×PUnit) (fun again47 ((x48,(l49,(i50,(i51,((i52,(i53,(i54,_))),((i55,(i56,(i57,_))),(i58,_))))))),(U59,(U60,_)))=>
              brK (decide (i58 < (16:Int)))
                (brK (decide (i58 < i51))
                  (brK (decide (i50≥i56))
                    (letN (IntKind.wrap IntKind.i64 (i58+(1:Int))) fun n61=>
                    again47 (((x48,l49,i50,i51,(i52,i53,i54,PUnit.unit),(i55,i56,i57,PUnit.unit),n61,PUnit.unit),U59,U60,PUnit.unit)))
                    (zar (zbD [D.h (3840) x48 (0:Nat),D.sl Tag.lent l49,D.int IntKind.i64 i50,D.agg [D.int IntKind.i64 i55,D.int IntKind.i64 i56,D.int IntKind.i64 i57],D.int IntKind.i64 i58] [U59,U60]) fun r62=>
                    nilK r62.outs <|
                    zcq r62.tbs fun c63 q64=>
                    zcq q64 fun c65 q66=>
                    nilK q66 <|
                    asI IntKind.i64 r62.r fun i67=>
                    brK (i67 != (0:Int))
                      (some (Ans.mk (D.int IntKind.i64 i67) [] [c63,c65]))
                      (letN (IntKind.wrap IntKind.i64 (i58+(1:Int))) fun n68=>
                      again47 (((x48,l49,i50,i51,(i52,i53,i54,PUnit.unit),(i55,i56,i57,PUnit.unit),n68,PUnit.unit),c63,c65,PUnit.unit)))))
                  (brK (decide (i50≥i53))
                    (letN (IntKind.wrap IntKind.i64 (i58+(1:Int))) fun n69=>
                    again47 (((x48,l49,i50,i51,(i52,i53,i54,PUnit.unit),(i55,i56,i57,PUnit.unit),n69,PUnit.unit),U59,U60,PUnit.unit)))
                    (zar (zbD [D.h (3840) x48 (0:Nat),D.sl Tag.lent l49,D.int IntKind.i64 i50,D.agg [D.int IntKind.i64 i52,D.int IntKind.i64 i53,D.int IntKind.i64 i54],D.int IntKind.i64 i58] [U59,U60]) fun r70=>
                    nilK r70.outs <|
                    zcq r70.tbs fun c71 q72=>
                    zcq q72 fun c73 q74=>
                    nilK q74 <|
                    asI IntKind.i64 r70.r fun i75=>
                    brK (i75 != (0:Int))
                      (some (Ans.mk (D.int IntKind.i64 i75) [] [c71,c73]))
                      (letN (IntKind.wrap IntKind.i64 (i58+(1:Int))) fun n76=>
                      again47 (((x48,l49,i50,i51,(i52,i53,i54,PUnit.unit),(i55,i56,i57,PUnit.unit),n76,PUnit.unit),c71,c73,PUnit.unit))))))
                (zar (zaB [D.h (3840) x48 (0:Nat),D.int IntKind.i64 i50] [U59,U60]) fun r77=>
                nilK r77.outs <|
                zcq r77.tbs fun c78 q79=>
                nilK q79 <|
                asI IntKind.i64 r77.r fun i80=>
                some (Ans.mk (D.int IntKind.i64 i80) [] [U59,c78])))
              (((a0,a1,a2,a5,(a3_0,a3_1,a3_2,PUnit.unit),(a4_0,a4_1,a4_2,PUnit.unit),(0:Int),PUnit.unit),T0,T1,PUnit.unit)))))))
theorem zrU (zau:List D→List Tb→Option Ans) (zbY:List D→Option D) (zaz:List D→List Tb→Option Ans) (zbD:List D→List Tb→Option Ans) (zaB:List D→List Tb→Option Ans) (tga1:Tag) (a0:Nat) (a1:List D) (a2:Int) (a3_0:Int) (a3_1:Int) (a3_2:Int) (a4_0:Int) (a4_1:Int) (a4_2:Int) (a5:Int) (T0:Tb) (T1:Tb):denS Try.prog (zay [(ID.bench_Bench_Len,(.st [] [0] [(3840,false)] zau)),(ID.rebuild_may,(.pure [0] zbY)),(ID.bench_Bench_Failed,(.st [] [0] [(3840,false),(7649,false)] zaz)),(ID.rebuild_one,(.st [] [0] [(3840,true),(7649,true)] zbD)),(ID.bench_Bench_Flush,(.st [] [0] [(3840,false),(7649,true)] zaB))]) zjo [0] ID.rebuild_Disk [.h 3840 a0 0,.sl tga1 a1,.int .i64 a2,.agg [.int .i64 a3_0,.int .i64 a3_1,.int .i64 a3_2],.agg [.int .i64 a4_0,.int .i64 a4_1,.int .i64 a4_2],.int .i64 a5] [T0,T1]=zhK zau zbY zaz zbD zaB a0 (D.lentL a1) a2 a3_0 a3_1 a3_2 a4_0 a4_1 a4_2 a5 T0 T1:=by kernel_rfl
theorem zoJ (tga1:Tag) (a0:Nat) (a1:List D) (a2:Int) (a3_0:Int) (a3_1:Int) (a3_2:Int) (a4_0:Int) (a4_1:Int) (a4_2:Int) (a5:Int) (T0:Tb) (T1:Tb):zaR [.h 3840 a0 0,.sl tga1 a1,.int .i64 a2,.agg [.int .i64 a3_0,.int .i64 a3_1,.int .i64 a3_2],.agg [.int .i64 a4_0,.int .i64 a4_1,.int .i64 a4_2],.int .i64 a5] [T0,T1]=zhK zau zbY zaz zbD zaB a0 (D.lentL a1) a2 a3_0 a3_1 a3_2 a4_0 a4_1 a4_2 a5 T0 T1:=zrU zau zbY zaz zbD zaB tga1 a0 a1 a2 a3_0 a3_1 a3_2 a4_0 a4_1 a4_2 a5 T0 T1
def zhu:Ann:={ loops:=[],ks:=[(7649,true)] }
noncomputable def zbH:List D→List Tb→Option Ans:=denS Try.prog (zay []) zhu [] ID.disk_Disk_Fail
theorem zlJ:za7 Try.prog ID.disk_Disk_Fail (.st [] [] [(7649,true)] zbH):=zbc (zaC []) zbB ⟨Try.f67,by kernel_rfl,by kernel_rfl,by kernel_rfl⟩
noncomputable def zmI:Fact Try.prog:=⟨ID.disk_Disk_Fail,(.st [] [] [(7649,true)] zbH),zlJ⟩
noncomputable def zf5 (a0:Nat) (T0:Tb):Option Ans:=
  getK T0 a0 fun d1=>
  sif ((1666:Nat)≤List.length d1) <|
  letT (zaZ T0 a0 (0:Nat) (List.map D.own0 (List.set (List.reverse ([D.bool false,D.sl Tag.nil []]++List.replicate 1664 (D.int IntKind.u8 (0:Int)))) (1665:Nat) (D.bool true)))) fun U2=>
  some (Ans.mk (D.tup []) [] [U2])
theorem zpF (a0:Nat) (T0:Tb):denS Try.prog (zay []) zhu [] ID.disk_Disk_Fail [.h 7649 a0 0] [T0]=zf5 a0 T0:=by kernel_rfl
theorem zmJ (a0:Nat) (T0:Tb):zbH [.h 7649 a0 0] [T0]=zf5 a0 T0:=zpF a0 T0
def zgd:Ann:={ loops:=[],ks:=[(3840,false),(7649,true)] }
noncomputable def zbg:List D→List Tb→Option Ans:=denS Try.prog (zay [(ID.bench_Bench_is,(.st [] [0] [(3840,false)] zah)),(ID.disk_Disk_Fail,(.st [] [] [(7649,true)] zbH))]) zgd [0] ID.bench_Bench_Fail
theorem zjF:za7 Try.prog ID.bench_Bench_Fail (.st [] [0] [(3840,false),(7649,true)] zbg):=zbc (zaC [zcO,zmI]) zbB ⟨Try.f19,by kernel_rfl,by kernel_rfl,by kernel_rfl⟩
noncomputable def zkG:Fact Try.prog:=⟨ID.bench_Bench_Fail,(.st [] [0] [(3840,false),(7649,true)] zbg),zjF⟩
noncomputable def ze1 (zah:List D→List Tb→Option Ans) (zbH:List D→List Tb→Option Ans) (a0:Nat) (a1:Int) (T0:Tb) (T1:Tb):Option Ans:=
  zar (zah [D.h (3840:Nat) a0 (0:Nat),D.int IntKind.i64 a1] [T0]) fun r1=>
  nilK r1.outs <|
  nilK r1.tbs <|
  asB r1.r fun b2=>
  brK (!b2)
    (some (Ans.mk (D.int IntKind.i64 (1:Int)) [] [T1]))
    (getK T0 a0 fun d3=>
    getK d3 ((3:Nat)) fun d4=>
    za4 d4 fun l5=>
    getK T0 a0 fun d6=>
    getK d6 ((3:Nat)) fun d7=>
    za4 d7 fun l8=>
    sif ((0:Int)≤a1) <|
    sif (Int.toNat a1 < List.length l5) <|
    getK T0 a0 fun d9=>
    getK d9 ((3:Nat)) fun d10=>
    za4 d10 fun l11=>
    getK l11 ((0:Nat)+Int.toNat a1) fun d12=>
    sif (D.isAgg d12=false) <|
    sif (D.width d12=(1:Nat)) <|
    sif (D.cell d12=true) <|
    zar (zbH [d12] [T1]) fun r13=>
    nilK r13.outs <|
    zcq r13.tbs fun c14 q15=>
    nilK q15 <|
    zd5 r13.r fun ts16=>
    nilK ts16 <|
    some (Ans.mk (D.int IntKind.i64 (0:Int)) [] [c14]))
theorem znL (zah:List D→List Tb→Option Ans) (zbH:List D→List Tb→Option Ans) (a0:Nat) (a1:Int) (T0:Tb) (T1:Tb):denS Try.prog (zay [(ID.bench_Bench_is,(.st [] [0] [(3840,false)] zah)),(ID.disk_Disk_Fail,(.st [] [] [(7649,true)] zbH))]) zgd [0] ID.bench_Bench_Fail [.h 3840 a0 0,.int .i64 a1] [T0,T1]=ze1 zah zbH a0 a1 T0 T1:=by kernel_rfl
theorem zkH (a0:Nat) (a1:Int) (T0:Tb) (T1:Tb):zbg [.h 3840 a0 0,.int .i64 a1] [T0,T1]=ze1 zah zbH a0 a1 T0 T1:=znL zah zbH a0 a1 T0 T1
def zfX:Ann:={ loops:=[],ks:=[(3840,true),(7649,true)] }
noncomputable def za3:List D→Option D:=denT Try.prog (zay [(ID.bench_New,(.st [] [0,0] [(3840,true),(7649,true)] zbr)),(ID.rebuild_Disk,(.st [] [0] [(3840,true),(7649,true)] zaR))]) zfX [0] ID.wattlelaw16_wakes
theorem zi5:za7 Try.prog ID.wattlelaw16_wakes (.pure [0] za3):=zsz (zaC [zlX,ziq]) zbB ⟨Try.f49,by kernel_rfl,by kernel_rfl,by kernel_rfl⟩
noncomputable def zjG:Fact Try.prog:=⟨ID.wattlelaw16_wakes,(.pure [0] za3),zi5⟩
noncomputable def zeD (zbr:List D→List Tb→Option Ans) (zaR:List D→List Tb→Option Ans):Option D:=
  zar (zbr [D.int IntKind.i64 (3:Int)] [[],[]]) fun r1=>
  nilK r1.outs <|
  zcq r1.tbs fun c2 q3=>
  zcq q3 fun c4 q5=>
  nilK q5 <|
  zd5 r1.r fun ts6=>
  zaw ([Lf.any,Lf.any]) ts6 fun c7=>
  sif (zh7 c7.fst=true) <|
  asI IntKind.i64 c7.snd.fst fun i8=>
  brK (i8 != (0:Int))
    (some (D.bool false))
    (zn5 c7.fst fun b9=>
    brK b9
      (some (D.bool false))
      (zar (zaR [c7.fst,D.sl Tag.full [D.bool true,D.bool true,D.bool true],D.int IntKind.i64 (1:Int),D.agg [D.int IntKind.i64 (5:Int),D.int IntKind.i64 (3:Int),D.int IntKind.i64 (1:Int)],D.agg [D.int IntKind.i64 (0:Int),D.int IntKind.i64 (0:Int),D.int IntKind.i64 (0:Int)],D.int IntKind.i64 (0:Int)] [c2,c4]) fun r10=>
      nilK r10.outs <|
      zcq r10.tbs fun c11 q12=>
      zcq q12 fun c13 q14=>
      nilK q14 <|
      asI IntKind.i64 r10.r fun i15=>
      brK (i15 == (1:Int))
        (zar (zaR [c7.fst,D.sl Tag.full [D.bool true,D.bool false,D.bool true],D.int IntKind.i64 (1:Int),D.agg [D.int IntKind.i64 (5:Int),D.int IntKind.i64 (3:Int),D.int IntKind.i64 (1:Int)],D.agg [D.int IntKind.i64 (0:Int),D.int IntKind.i64 (0:Int),D.int IntKind.i64 (0:Int)],D.int IntKind.i64 (0:Int)] [c11,c13]) fun r16=>
        nilK r16.outs <|
        zcq r16.tbs fun c17 q18=>
        zcq q18 fun c19 q20=>
        nilK q20 <|
        asI IntKind.i64 r16.r fun i21=>
        some (D.bool (i21 == (0:Int))))
        (some (D.bool false))))
theorem zmK (zbr:List D→List Tb→Option Ans) (zaR:List D→List Tb→Option Ans):denT Try.prog (zay [(ID.bench_New,(.st [] [0,0] [(3840,true),(7649,true)] zbr)),(ID.rebuild_Disk,(.st [] [0] [(3840,true),(7649,true)] zaR))]) zfX [0] ID.wattlelaw16_wakes []=sif (D.nohL []=true) (zeD zbr zaR ):=by kernel_rfl
theorem zjH:za3 []=sif (D.nohL []=true) (zeD zbr zaR ):=zmK zbr zaR
def zfY:Ann:={ loops:=[(1,[.val (.cell (.int .i64)),.dead,.dead,.own 1,.dead,.dead,.dead,.dead,.dead,.dead,.dead,.val (.cell (.int .i64)),.val (.cell (.int .i64))])] }
noncomputable def za9:List D→Option D:=denP Try.prog (zay [(ID.wattlekeep_Within,(.pure [0] zab))]) zfY [1] ID.wattleplay_Sector
theorem zi6:za7 Try.prog ID.wattleplay_Sector (.pure [1] za9):=zat (zaC [zcS]) zbB ⟨Try.f36,by kernel_rfl,by kernel_rfl,by kernel_rfl⟩
noncomputable def zjI:Fact Try.prog:=⟨ID.wattleplay_Sector,(.pure [1] za9),zi6⟩
noncomputable def zeE (zab:List D→Option D) (a0:Int):Option D:=
  zar (zab [D.int IntKind.i64 a0,D.int IntKind.i64 (11:Int)]) fun r1=>
  asI IntKind.i64 r1 fun i2=>
  brK (i2 == (10:Int))
    (some (D.sl Tag.own [D.int IntKind.u8 (0:Int),D.int IntKind.u8 (0:Int),D.int IntKind.u8 (0:Int),D.int IntKind.u8 (0:Int),D.int IntKind.u8 (0:Int),D.int IntKind.u8 (0:Int),D.int IntKind.u8 (0:Int),D.int IntKind.u8 (0:Int),D.int IntKind.u8 (0:Int),D.int IntKind.u8 (0:Int),D.int IntKind.u8 (0:Int),D.int IntKind.u8 (0:Int),D.int IntKind.u8 (0:Int),D.int IntKind.u8 (0:Int),D.int IntKind.u8 (0:Int),D.int IntKind.u8 (0:Int),D.int IntKind.u8 (0:Int),D.int IntKind.u8 (0:Int),D.int IntKind.u8 (0:Int),D.int IntKind.u8 (0:Int),D.int IntKind.u8 (0:Int),D.int IntKind.u8 (0:Int),D.int IntKind.u8 (0:Int),D.int IntKind.u8 (0:Int),D.int IntKind.u8 (0:Int),D.int IntKind.u8 (0:Int),D.int IntKind.u8 (0:Int),D.int IntKind.u8 (0:Int),D.int IntKind.u8 (0:Int),D.int IntKind.u8 (0:Int),D.int IntKind.u8 (0:Int),D.int IntKind.u8 (0:Int)]))
    (zcd (α:=(Int×List D×Int×Int×PUnit)×PUnit) (fun again3 ((i4,(l5,(i6,(i7,_)))),_)=>
      brK (decide (i7 < i6))
        (letN (IntKind.wrap IntKind.i64 (Int.tdiv i4 (7:Int))) fun n8=>
        letN (bits BinOp.or IntKind.i64 n8 (1:Int)) fun n9=>
        letN (IntKind.wrap IntKind.i64 (i7*n9)) fun n10=>
        letN (IntKind.wrap IntKind.i64 (i4+n10)) fun n11=>
        letN (IntKind.wrap IntKind.u8 n11) fun n12=>
        sif ((0:Int)≤i7) <|
        sif (Int.toNat i7 < List.length l5) <|
        getK l5 ((0:Nat)+Int.toNat i7) fun d13=>
        sif (D.isAgg d13=false) <|
        letN (IntKind.wrap IntKind.i64 (i7+(1:Int))) fun n14=>
        sif (List.length l5=List.length (List.set l5 ((0:Nat)+Int.toNat i7) (D.int IntKind.u8 n12))) <|
        again3 (((i4,List.set l5 ((0:Nat)+Int.toNat i7) (D.int IntKind.u8 n12),i6,n14,PUnit.unit),PUnit.unit)))
        (sif (List.length l5=List.length l5) <|
        sif (List.all l5 D.free=true) <|
        some (D.sl Tag.own l5)))
      (((a0,[D.int IntKind.u8 (0:Int),D.int IntKind.u8 (0:Int),D.int IntKind.u8 (0:Int),D.int IntKind.u8 (0:Int),D.int IntKind.u8 (0:Int),D.int IntKind.u8 (0:Int),D.int IntKind.u8 (0:Int),D.int IntKind.u8 (0:Int),D.int IntKind.u8 (0:Int),D.int IntKind.u8 (0:Int),D.int IntKind.u8 (0:Int),D.int IntKind.u8 (0:Int),D.int IntKind.u8 (0:Int),D.int IntKind.u8 (0:Int),D.int IntKind.u8 (0:Int),D.int IntKind.u8 (0:Int),D.int IntKind.u8 (0:Int),D.int IntKind.u8 (0:Int),D.int IntKind.u8 (0:Int),D.int IntKind.u8 (0:Int),D.int IntKind.u8 (0:Int),D.int IntKind.u8 (0:Int),D.int IntKind.u8 (0:Int),D.int IntKind.u8 (0:Int),D.int IntKind.u8 (0:Int),D.int IntKind.u8 (0:Int),D.int IntKind.u8 (0:Int),D.int IntKind.u8 (0:Int),D.int IntKind.u8 (0:Int),D.int IntKind.u8 (0:Int),D.int IntKind.u8 (0:Int),D.int IntKind.u8 (0:Int)],(32:Int),(0:Int),PUnit.unit),PUnit.unit)))
theorem zmL (zab:List D→Option D) (a0:Int):denP Try.prog (zay [(ID.wattlekeep_Within,(.pure [0] zab))]) zfY [1] ID.wattleplay_Sector [.int .i64 a0]=zeE zab a0:=by kernel_rfl
theorem zjJ (a0:Int):za9 [.int .i64 a0]=zeE zab a0:=zmL zab a0
def zfg:Ann:={ loops:=[(0,[.val (.cell .lent),.val (.cell (.int .i64)),.dead,.dead,.dead,.own 1,.val (.cell (.int .i64))])] }
noncomputable def zba:List D→Option D:=denP Try.prog (zay [(ID.wattleplay_Sector,(.pure [1] za9))]) zfg [1] ID.wattleplay_Sectors
theorem zir:za7 Try.prog ID.wattleplay_Sectors (.pure [1] zba):=zat (zaC [zjI]) zbB ⟨Try.f31,by kernel_rfl,by kernel_rfl,by kernel_rfl⟩
noncomputable def zi7:Fact Try.prog:=⟨ID.wattleplay_Sectors,(.pure [1] zba),zir⟩
noncomputable def zej (za9:List D→Option D) (a0:List D) (a1:Int):Option D:=
  zcd (α:=(List D×Int×List D×Int×PUnit)×PUnit) (fun again1 ((l2,(i3,(l4,(i5,_)))),_)=>
    brK (decide (i5 < i3))
      (letN (IntKind.wrap IntKind.i64 ((3:Int)*i5)) fun n6=>
      brK (decide (i5 < (↑(List.length l2):Int)))
        (sif ((0:Int)≤i5) <|
        getK l2 (Int.toNat i5) fun d7=>
        asI IntKind.i64 d7 fun i8=>
        zar (za9 [D.int IntKind.i64 i8]) fun r9=>
        za4 r9 fun l10=>
        sif ((0:Nat)+List.length l10≤List.length l10) <|
        sif (List.length l4+(1:Nat)≤(4294967296:Nat)) <|
        sif (List.length l4=List.length l4) <|
        letN (IntKind.wrap IntKind.i64 (i5+(1:Int))) fun n11=>
        sif (List.length l4+(1:Nat)=List.length (l4++[D.sl Tag.fresh (cut (0:Nat) (List.length l10) l10)])) <|
        again1 (((l2,i3,l4++[D.sl Tag.fresh (cut (0:Nat) (List.length l10) l10)],n11,PUnit.unit),PUnit.unit)))
        (zar (za9 [D.int IntKind.i64 n6]) fun r12=>
        za4 r12 fun l13=>
        sif ((0:Nat)+List.length l13≤List.length l13) <|
        sif (List.length l4+(1:Nat)≤(4294967296:Nat)) <|
        sif (List.length l4=List.length l4) <|
        letN (IntKind.wrap IntKind.i64 (i5+(1:Int))) fun n14=>
        sif (List.length l4+(1:Nat)=List.length (l4++[D.sl Tag.fresh (cut (0:Nat) (List.length l13) l13)])) <|
        again1 (((l2,i3,l4++[D.sl Tag.fresh (cut (0:Nat) (List.length l13) l13)],n14,PUnit.unit),PUnit.unit))))
      (sif (List.length l4=List.length l4) <|
      sif (List.all l4 D.free=true) <|
      some (D.sl Tag.own l4)))
    (((a0,a1,[],(0:Int),PUnit.unit),PUnit.unit))
theorem zlK (za9:List D→Option D) (tga0:Tag) (a0:List D) (a1:Int):denP Try.prog (zay [(ID.wattleplay_Sector,(.pure [1] za9))]) zfg [1] ID.wattleplay_Sectors [.sl tga0 a0,.int .i64 a1]=zej za9 (D.lentL a0) a1:=by kernel_rfl
theorem zi8 (tga0:Tag) (a0:List D) (a1:Int):zba [.sl tga0 a0,.int .i64 a1]=zej za9 (D.lentL a0) a1:=zlK za9 tga0 a0 a1
def zge:Ann:={ loops:=[] }
noncomputable def zaq:List D→Option D:=denP Try.prog (zay [(ID.wattleref01_Check,(.pure [0] zag))]) zge [0] ID.wattleref01_fine
theorem zjK:za7 Try.prog ID.wattleref01_fine (.pure [0] zaq):=zat (zaC [zcT]) zbB ⟨Try.f75,by kernel_rfl,by kernel_rfl,by kernel_rfl⟩
noncomputable def zdW:Fact Try.prog:=⟨ID.wattleref01_fine,(.pure [0] zaq),zjK⟩
noncomputable def ze2 (zag:List D→Option D) (a0_0:Int) (a0_1:Int) (a0_2:Int) (a1:Int):Option D:=
  zar (zag [D.agg [D.int IntKind.i64 a0_0,D.int IntKind.i64 a0_1,D.int IntKind.i64 a0_2]]) fun r1=>
  asB r1 fun b2=>
  brK b2
    (brK (decide (a1≥(0:Int)))
      (some (D.bool (decide (a1 < (16:Int)))))
      (some (D.bool false)))
    (some (D.bool false))
theorem znM (zag:List D→Option D) (a0_0:Int) (a0_1:Int) (a0_2:Int) (a1:Int):denP Try.prog (zay [(ID.wattleref01_Check,(.pure [0] zag))]) zge [0] ID.wattleref01_fine [.agg [.int .i64 a0_0,.int .i64 a0_1,.int .i64 a0_2],.int .i64 a1]=ze2 zag a0_0 a0_1 a0_2 a1:=by kernel_rfl
theorem zkI (a0_0:Int) (a0_1:Int) (a0_2:Int) (a1:Int):zaq [.agg [.int .i64 a0_0,.int .i64 a0_1,.int .i64 a0_2],.int .i64 a1]=ze2 zag a0_0 a0_1 a0_2 a1:=znM zag a0_0 a0_1 a0_2 a1
def zfh:Ann:={ loops:=[] }
noncomputable def zaA:List D→Option D:=denP Try.prog (zay [(ID.wattleref01_fine,(.pure [0] zaq))]) zfh [0,0] ID.wattleref01_Parity
theorem zis:za7 Try.prog ID.wattleref01_Parity (.pure [0,0] zaA):=zat (zaC [zdW]) zbB ⟨Try.f46,by kernel_rfl,by kernel_rfl,by kernel_rfl⟩
noncomputable def ze3:Fact Try.prog:=⟨ID.wattleref01_Parity,(.pure [0,0] zaA),zis⟩
noncomputable def zek (zaq:List D→Option D) (a0_0:Int) (a0_1:Int) (a0_2:Int) (a1:Int):Option D:=
  zar (zaq [D.agg [D.int IntKind.i64 a0_0,D.int IntKind.i64 a0_1,D.int IntKind.i64 a0_2],D.int IntKind.i64 a1]) fun r1=>
  asB r1 fun b2=>
  brK (!b2)
    (some (D.tup [D.int IntKind.i64 (-1:Int),D.int IntKind.i64 (-1:Int)]))
    (letN (IntKind.wrap IntKind.i64 (a0_1 - (1:Int))) fun n3=>
    sif (a0_2≠(0:Int)) <|
    letN (IntKind.wrap IntKind.i64 (Int.tdiv a1 a0_2)) fun n4=>
    sif (a0_1≠(0:Int)) <|
    letN (Int.tmod n4 a0_1) fun n5=>
    letN (IntKind.wrap IntKind.i64 (n3 - n5)) fun n6=>
    brK (a0_0 == (5:Int))
      (some (D.tup [D.int IntKind.i64 n6,D.int IntKind.i64 (-1:Int)]))
      (letN (IntKind.wrap IntKind.i64 (n6+(1:Int))) fun n7=>
      sif (a0_1≠(0:Int)) <|
      letN (Int.tmod n7 a0_1) fun n8=>
      some (D.tup [D.int IntKind.i64 n6,D.int IntKind.i64 n8])))
theorem zlL (zaq:List D→Option D) (a0_0:Int) (a0_1:Int) (a0_2:Int) (a1:Int):denP Try.prog (zay [(ID.wattleref01_fine,(.pure [0] zaq))]) zfh [0,0] ID.wattleref01_Parity [.agg [.int .i64 a0_0,.int .i64 a0_1,.int .i64 a0_2],.int .i64 a1]=zek zaq a0_0 a0_1 a0_2 a1:=by kernel_rfl
theorem zi9 (a0_0:Int) (a0_1:Int) (a0_2:Int) (a1:Int):zaA [.agg [.int .i64 a0_0,.int .i64 a0_1,.int .i64 a0_2],.int .i64 a1]=zek zaq a0_0 a0_1 a0_2 a1:=zlL zaq a0_0 a0_1 a0_2 a1
def zgf:Ann:={ loops:=[] }
noncomputable def zbh:List D→Option D:=denP Try.prog (zay [(ID.wattleref01_fine,(.pure [0] zaq)),(ID.wattleref01_Width,(.pure [0] zaf)),(ID.wattleref01_Parity,(.pure [0,0] zaA)),(ID.wattleref01_Budget,(.pure [0] zaD))]) zgf [0] ID.wattleref01_Disk
theorem zjL:za7 Try.prog ID.wattleref01_Disk (.pure [0] zbh):=zat (zaC [zdW,zcU,ze3,zeV]) zbB ⟨Try.f74,by kernel_rfl,by kernel_rfl,by kernel_rfl⟩
noncomputable def zkJ:Fact Try.prog:=⟨ID.wattleref01_Disk,(.pure [0] zbh),zjL⟩
noncomputable def ze4 (zaq:List D→Option D) (zaf:List D→Option D) (zaA:List D→Option D) (zaD:List D→Option D) (a0_0:Int) (a0_1:Int) (a0_2:Int) (a1:Int) (a2:Int):Option D:=
  zar (zaq [D.agg [D.int IntKind.i64 a0_0,D.int IntKind.i64 a0_1,D.int IntKind.i64 a0_2],D.int IntKind.i64 a1]) fun r1=>
  asB r1 fun b2=>
  brK (!b2)
    (some (D.int IntKind.i64 (-1:Int)))
    (brK (decide (a2 < (0:Int)))
      (some (D.int IntKind.i64 (-1:Int)))
      (zar (zaf [D.agg [D.int IntKind.i64 a0_0,D.int IntKind.i64 a0_1,D.int IntKind.i64 a0_2]]) fun r3=>
      asI IntKind.i64 r3 fun i4=>
      brK (decide (a2≥i4))
        (some (D.int IntKind.i64 (-1:Int)))
        (zar (zaA [D.agg [D.int IntKind.i64 a0_0,D.int IntKind.i64 a0_1,D.int IntKind.i64 a0_2],D.int IntKind.i64 a1]) fun r5=>
        zd5 r5 fun ts6=>
        zaw ([Lf.any,Lf.any]) ts6 fun c7=>
        asI IntKind.i64 c7.fst fun i8=>
        asI IntKind.i64 c7.snd.fst fun i9=>
        zar (zaD [D.agg [D.int IntKind.i64 a0_0,D.int IntKind.i64 a0_1,D.int IntKind.i64 a0_2]]) fun r10=>
        asI IntKind.i64 r10 fun i11=>
        letN (IntKind.wrap IntKind.i64 (i8+i11)) fun n12=>
        letN (IntKind.wrap IntKind.i64 (n12+a2)) fun n13=>
        sif (a0_1≠(0:Int)) <|
        letN (Int.tmod n13 a0_1) fun n14=>
        some (D.int IntKind.i64 n14))))
theorem znN (zaq:List D→Option D) (zaf:List D→Option D) (zaA:List D→Option D) (zaD:List D→Option D) (a0_0:Int) (a0_1:Int) (a0_2:Int) (a1:Int) (a2:Int):denP Try.prog (zay [(ID.wattleref01_fine,(.pure [0] zaq)),(ID.wattleref01_Width,(.pure [0] zaf)),(ID.wattleref01_Parity,(.pure [0,0] zaA)),(ID.wattleref01_Budget,(.pure [0] zaD))]) zgf [0] ID.wattleref01_Disk [.agg [.int .i64 a0_0,.int .i64 a0_1,.int .i64 a0_2],.int .i64 a1,.int .i64 a2]=ze4 zaq zaf zaA zaD a0_0 a0_1 a0_2 a1 a2:=by kernel_rfl
theorem zkK (a0_0:Int) (a0_1:Int) (a0_2:Int) (a1:Int) (a2:Int):zbh [.agg [.int .i64 a0_0,.int .i64 a0_1,.int .i64 a0_2],.int .i64 a1,.int .i64 a2]=ze4 zaq zaf zaA zaD a0_0 a0_1 a0_2 a1 a2:=znN zaq zaf zaA zaD a0_0 a0_1 a0_2 a1 a2
def zfZ:Ann:={ loops:=[(0,[.val (.cell .lent),.dead,.dead,.dead,.dead,.val (.cell .lent),.val (.cell (.int .i64)),.val (.cell (.int .i64))])] }
noncomputable def zaH:List D→Option D:=denP Try.prog (zay []) zfZ [0] ID.wattleref01_alike
theorem zja:za7 Try.prog ID.wattleref01_alike (.pure [0] zaH):=zat (zaC []) zbB ⟨Try.f115,by kernel_rfl,by kernel_rfl,by kernel_rfl⟩
noncomputable def zfi:Fact Try.prog:=⟨ID.wattleref01_alike,(.pure [0] zaH),zja⟩
noncomputable def zeF (a0:List D):Option D:=
  zcd (α:=(List D×List D×Int×Int×PUnit)×PUnit) (fun again1 ((l2,(l3,(i4,(i5,_)))),_)=>
    brK (decide (i5 < i4))
      (sif ((0:Int)≤i5) <|
      getK l3 (Int.toNat i5) fun d6=>
      asSl d6 fun t7 l8=>
      getK l2 ((0:Nat)) fun d9=>
      asSl d9 fun t10 l11=>
      brK ((↑(List.length l8):Int) != (↑(List.length l11):Int))
        (some (D.bool false))
        (letN (IntKind.wrap IntKind.i64 (i5+(1:Int))) fun n12=>
        again1 (((l2,l3,i4,n12,PUnit.unit),PUnit.unit))))
      (some (D.bool (decide ((↑(List.length l2):Int) > (0:Int))))))
    (((a0,a0,(↑(List.length a0):Int),(0:Int),PUnit.unit),PUnit.unit))
theorem zmM (tga0:Tag) (a0:List D):denP Try.prog (zay []) zfZ [0] ID.wattleref01_alike [.sl tga0 a0]=zeF (D.lentL a0):=by kernel_rfl
theorem zjM (tga0:Tag) (a0:List D):zaH [.sl tga0 a0]=zeF (D.lentL a0):=zmM tga0 a0
def zit:Ann:={ loops:=[(1,[.dead,.dead,.dead,.own 1,.dead,.dead,.dead,.dead,.dead,.dead,.dead,.dead,.dead,.dead,.dead,.dead,.val (.cell .lent),.val (.cell (.int .i64)),.val (.cell (.int .i64))]),(3,[.dead,.dead,.dead,.own 1,.dead,.dead,.dead,.dead,.dead,.dead,.dead,.dead,.dead,.dead,.dead,.dead,.val (.cell .lent),.val (.cell (.int .i64)),.val (.cell (.int .i64)),.dead,.dead,.dead,.val (.cell .sl),.val (.cell (.int .i64)),.val (.cell (.int .i64))])] }
noncomputable def zbK:List D→Option D:=denP Try.prog (zay [(ID.wattleref01_alike,(.pure [0] zaH))]) zit [1] ID.wattleref01_P
theorem zmN:za7 Try.prog ID.wattleref01_P (.pure [1] zbK):=zat (zaC [zfi]) zbB ⟨Try.f81,by kernel_rfl,by kernel_rfl,by kernel_rfl⟩
noncomputable def znO:Fact Try.prog:=⟨ID.wattleref01_P,(.pure [1] zbK),zmN⟩
noncomputable def zg6 (zaH:List D→Option D) (a0:List D):Option D:=
  zar (zaH [D.sl Tag.lent a0]) fun r1=>
  asB r1 fun b2=>
  brK (!b2)
    (some (D.sl Tag.own []))
    (getK a0 ((0:Nat)) fun d3=>
    asSl d3 fun t4 l5=>
    sif ((↑(List.length l5):Int)=(↑(List.length l5):Int)) <|
    sif ((↑(List.length l5):Int)*(1:Int)≤(140737488355328:Int)) <|
    sif ((↑(List.length l5):Int)≤(140737488355328:Int)) <|
    sif (Int.toNat (↑(List.length l5):Int)=List.length (List.replicate (Int.toNat (↑(List.length l5):Int)) (D.int IntKind.u8 (0:Int)))) <|
    zcd (α:=(List D×List D×Int×Int×PUnit)×PUnit) (fun again6 ((l7,(l8,(i9,(i10,_)))),_)=>
      brK (decide (i10 < i9))
        (sif ((0:Int)≤i10) <|
        getK l8 (Int.toNat i10) fun d11=>
        asSl d11 fun t12 l13=>
        sif (List.length l7=List.length l7) <|
        zcd (α:=(List D×List D×Int×Int×(Tag×List D)×Int×Int×PUnit)×PUnit) (fun again14 ((l15,(l16,(i17,(i18,((t19,l20),(i21,(i22,_))))))),_)=>
          brK (decide (i22 < i21))
            (sif ((0:Int)≤i22) <|
            getK l20 (Int.toNat i22) fun d23=>
            asI IntKind.u8 d23 fun i24=>
            sif ((0:Int)≤i22) <|
            sif (Int.toNat i22 < List.length l15) <|
            getK l15 ((0:Nat)+Int.toNat i22) fun d25=>
            asI IntKind.u8 d25 fun i26=>
            letN (bits BinOp.xor IntKind.u8 i26 i24) fun n27=>
            sif ((0:Int)≤i22) <|
            sif (Int.toNat i22 < List.length l15) <|
            getK l15 ((0:Nat)+Int.toNat i22) fun d28=>
            sif (D.isAgg d28=false) <|
            letN (IntKind.wrap IntKind.i64 (i22+(1:Int))) fun n29=>
            sif (List.length l15=List.length (List.set l15 ((0:Nat)+Int.toNat i22) (D.int IntKind.u8 n27))) <|
            again14 (((List.set l15 ((0:Nat)+Int.toNat i22) (D.int IntKind.u8 n27),l16,i17,i18,(t19,l20),i21,n29,PUnit.unit),PUnit.unit)))
            (letN (IntKind.wrap IntKind.i64 (i18+(1:Int))) fun n30=>
            sif (List.length l15=List.length l15) <|
            again6 (((l15,l16,i17,n30,PUnit.unit),PUnit.unit))))
          (((l7,l8,i9,i10,(t12,l13),(↑(List.length l13):Int),(0:Int),PUnit.unit),PUnit.unit)))
        (sif (List.length l7=List.length l7) <|
        sif (List.all l7 D.free=true) <|
        some (D.sl Tag.own l7)))
      (((List.replicate (Int.toNat (↑(List.length l5):Int)) (D.int IntKind.u8 (0:Int)),a0,(↑(List.length a0):Int),(0:Int),PUnit.unit),PUnit.unit)))
theorem zri (zaH:List D→Option D) (tga0:Tag) (a0:List D):denP Try.prog (zay [(ID.wattleref01_alike,(.pure [0] zaH))]) zit [1] ID.wattleref01_P [.sl tga0 a0]=zg6 zaH (D.lentL a0):=by kernel_rfl
theorem znP (tga0:Tag) (a0:List D):zbK [.sl tga0 a0]=zg6 zaH (D.lentL a0):=zri zaH tga0 a0
def zg7:Ann:={ loops:=[(0,[.dead,.val (.cell (.int .u8)),.dead,.dead,.dead,.val (.cell (.int .i64)),.val (.cell (.int .i64)),.val (.cell (.int .i64))])] }
noncomputable def zaN:List D→Option D:=denP Try.prog (zay []) zg7 [0] ID.wattleref01_Mul
theorem zkL:za7 Try.prog ID.wattleref01_Mul (.pure [0] zaN):=zat (zaC []) zbB ⟨Try.f117,by kernel_rfl,by kernel_rfl,by kernel_rfl⟩
noncomputable def zgg:Fact Try.prog:=⟨ID.wattleref01_Mul,(.pure [0] zaN),zkL⟩
noncomputable def zfA (a0:Int) (a1:Int):Option D:=
  letN (IntKind.wrap IntKind.i64 a0) fun n1=>
  zcd (α:=(Int×Int×Int×Int×PUnit)×PUnit) (fun again2 ((i3,(i4,(i5,(i6,_)))),_)=>
    brK (decide (i6 < (8:Int)))
      (letN (IntKind.wrap IntKind.u64 i6) fun n7=>
      sif ((0:Int)≤n7) <|
      letN (Int.fdiv i3 ((2:Int) ^ min (Int.toNat n7) (8:Nat))) fun n8=>
      letN (bits BinOp.and IntKind.u8 n8 (1:Int)) fun n9=>
      brK (n9 == (1:Int))
        (letN (bits BinOp.xor IntKind.i64 i5 i4) fun n10=>
        letN (IntKind.wrap IntKind.i64 (i4*(2:Int))) fun n11=>
        brK (decide (n11 > (255:Int)))
          (letN (bits BinOp.xor IntKind.i64 n11 (285:Int)) fun n12=>
          letN (IntKind.wrap IntKind.i64 (i6+(1:Int))) fun n13=>
          again2 (((i3,n12,n10,n13,PUnit.unit),PUnit.unit)))
          (letN (IntKind.wrap IntKind.i64 (i6+(1:Int))) fun n14=>
          again2 (((i3,n11,n10,n14,PUnit.unit),PUnit.unit))))
        (letN (IntKind.wrap IntKind.i64 (i4*(2:Int))) fun n15=>
        brK (decide (n15 > (255:Int)))
          (letN (bits BinOp.xor IntKind.i64 n15 (285:Int)) fun n16=>
          letN (IntKind.wrap IntKind.i64 (i6+(1:Int))) fun n17=>
          again2 (((i3,n16,i5,n17,PUnit.unit),PUnit.unit)))
          (letN (IntKind.wrap IntKind.i64 (i6+(1:Int))) fun n18=>
          again2 (((i3,n15,i5,n18,PUnit.unit),PUnit.unit)))))
      (letN (IntKind.wrap IntKind.u8 i5) fun n19=>
      some (D.int IntKind.u8 n19)))
    (((a1,n1,(0:Int),(0:Int),PUnit.unit),PUnit.unit))
theorem zoK (a0:Int) (a1:Int):denP Try.prog (zay []) zg7 [0] ID.wattleref01_Mul [.int .u8 a0,.int .u8 a1]=zfA a0 a1:=by kernel_rfl
theorem zlM (a0:Int) (a1:Int):zaN [.int .u8 a0,.int .u8 a1]=zfA a0 a1:=zoK a0 a1
def zg8:Ann:={ loops:=[(1,[.val (.cell (.int .i64)),.dead,.dead,.val (.cell (.int .u8))])] }
noncomputable def zbA:List D→Option D:=denP Try.prog (zay [(ID.wattleref01_Mul,(.pure [0] zaN))]) zg8 [0] ID.wattleref01_Pow
theorem zkM:za7 Try.prog ID.wattleref01_Pow (.pure [0] zbA):=zat (zaC [zgg]) zbB ⟨Try.f116,by kernel_rfl,by kernel_rfl,by kernel_rfl⟩
noncomputable def zlN:Fact Try.prog:=⟨ID.wattleref01_Pow,(.pure [0] zbA),zkM⟩
noncomputable def zfB (zaN:List D→Option D) (a0:Int):Option D:=
  letN (Int.tmod a0 (255:Int)) fun n1=>
  brK (decide (n1 < (0:Int)))
    (letN (IntKind.wrap IntKind.i64 (n1+(255:Int))) fun n2=>
    zcd (α:=(Int×Int×PUnit)×PUnit) (fun again3 ((i4,(i5,_)),_)=>
      brK (decide (i4 > (0:Int)))
        (zar (zaN [D.int IntKind.u8 i5,D.int IntKind.u8 (2:Int)]) fun r6=>
        asI IntKind.u8 r6 fun i7=>
        letN (IntKind.wrap IntKind.i64 (i4 - (1:Int))) fun n8=>
        again3 (((n8,i7,PUnit.unit),PUnit.unit)))
        (some (D.int IntKind.u8 i5)))
      (((n2,(1:Int),PUnit.unit),PUnit.unit)))
    (zcd (α:=(Int×Int×PUnit)×PUnit) (fun again9 ((i10,(i11,_)),_)=>
      brK (decide (i10 > (0:Int)))
        (zar (zaN [D.int IntKind.u8 i11,D.int IntKind.u8 (2:Int)]) fun r12=>
        asI IntKind.u8 r12 fun i13=>
        letN (IntKind.wrap IntKind.i64 (i10 - (1:Int))) fun n14=>
        again9 (((n14,i13,PUnit.unit),PUnit.unit)))
        (some (D.int IntKind.u8 i11)))
      (((n1,(1:Int),PUnit.unit),PUnit.unit)))
theorem zoL (zaN:List D→Option D) (a0:Int):denP Try.prog (zay [(ID.wattleref01_Mul,(.pure [0] zaN))]) zg8 [0] ID.wattleref01_Pow [.int .i64 a0]=zfB zaN a0:=by kernel_rfl
theorem zlO (a0:Int):zbA [.int .i64 a0]=zfB zaN a0:=zoL zaN a0
def ziu:Ann:={ loops:=[(1,[.dead,.dead,.dead,.own 1,.dead,.dead,.dead,.dead,.dead,.dead,.dead,.dead,.dead,.dead,.dead,.dead,.dead,.val (.cell .lent),.val (.cell (.int .i64)),.val (.cell (.int .i64))]),(3,[.dead,.dead,.dead,.own 1,.dead,.dead,.val (.cell (.int .u8)),.dead,.dead,.dead,.dead,.dead,.dead,.dead,.dead,.dead,.dead,.val (.cell .lent),.val (.cell (.int .i64)),.val (.cell (.int .i64)),.dead,.dead,.dead,.dead,.dead,.dead,.val (.cell .sl),.val (.cell (.int .i64)),.val (.cell (.int .i64))])] }
noncomputable def zbL:List D→Option D:=denP Try.prog (zay [(ID.wattleref01_alike,(.pure [0] zaH)),(ID.wattleref01_Pow,(.pure [0] zbA)),(ID.wattleref01_Mul,(.pure [0] zaN))]) ziu [1] ID.wattleref01_Q
theorem zmO:za7 Try.prog ID.wattleref01_Q (.pure [1] zbL):=zat (zaC [zfi,zlN,zgg]) zbB ⟨Try.f82,by kernel_rfl,by kernel_rfl,by kernel_rfl⟩
noncomputable def znQ:Fact Try.prog:=⟨ID.wattleref01_Q,(.pure [1] zbL),zmO⟩
noncomputable def zg9 (zaH:List D→Option D) (zbA:List D→Option D) (zaN:List D→Option D) (a0:List D):Option D:=
  zar (zaH [D.sl Tag.lent a0]) fun r1=>
  asB r1 fun b2=>
  brK (!b2)
    (some (D.sl Tag.own []))
    (getK a0 ((0:Nat)) fun d3=>
    asSl d3 fun t4 l5=>
    sif ((↑(List.length l5):Int)=(↑(List.length l5):Int)) <|
    sif ((↑(List.length l5):Int)*(1:Int)≤(140737488355328:Int)) <|
    sif ((↑(List.length l5):Int)≤(140737488355328:Int)) <|
    sif (Int.toNat (↑(List.length l5):Int)=List.length (List.replicate (Int.toNat (↑(List.length l5):Int)) (D.int IntKind.u8 (0:Int)))) <|
    zcd (α:=(List D×List D×Int×Int×PUnit)×PUnit) (fun again6 ((l7,(l8,(i9,(i10,_)))),_)=>
      brK (decide (i10 < i9))
        (sif ((0:Int)≤i10) <|
        getK l8 (Int.toNat i10) fun d11=>
        asSl d11 fun t12 l13=>
        zar (zbA [D.int IntKind.i64 i10]) fun r14=>
        asI IntKind.u8 r14 fun i15=>
        sif (List.length l7=List.length l7) <|
        zcd (α:=(List D×Int×List D×Int×Int×(Tag×List D)×Int×Int×PUnit)×PUnit) (fun again16 ((l17,(i18,(l19,(i20,(i21,((t22,l23),(i24,(i25,_)))))))),_)=>
          brK (decide (i25 < i24))
            (sif ((0:Int)≤i25) <|
            getK l23 (Int.toNat i25) fun d26=>
            asI IntKind.u8 d26 fun i27=>
            sif ((0:Int)≤i25) <|
            sif (Int.toNat i25 < List.length l17) <|
            getK l17 ((0:Nat)+Int.toNat i25) fun d28=>
            asI IntKind.u8 d28 fun i29=>
            zar (zaN [D.int IntKind.u8 i27,D.int IntKind.u8 i18]) fun r30=>
            asI IntKind.u8 r30 fun i31=>
            letN (bits BinOp.xor IntKind.u8 i29 i31) fun n32=>
            sif ((0:Int)≤i25) <|
            sif (Int.toNat i25 < List.length l17) <|
            getK l17 ((0:Nat)+Int.toNat i25) fun d33=>
            sif (D.isAgg d33=false) <|
            letN (IntKind.wrap IntKind.i64 (i25+(1:Int))) fun n34=>
            sif (List.length l17=List.length (List.set l17 ((0:Nat)+Int.toNat i25) (D.int IntKind.u8 n32))) <|
            again16 (((List.set l17 ((0:Nat)+Int.toNat i25) (D.int IntKind.u8 n32),i18,l19,i20,i21,(t22,l23),i24,n34,PUnit.unit),PUnit.unit)))
            (letN (IntKind.wrap IntKind.i64 (i21+(1:Int))) fun n35=>
            sif (List.length l17=List.length l17) <|
            again6 (((l17,l19,i20,n35,PUnit.unit),PUnit.unit))))
          (((l7,i15,l8,i9,i10,(t12,l13),(↑(List.length l13):Int),(0:Int),PUnit.unit),PUnit.unit)))
        (sif (List.length l7=List.length l7) <|
        sif (List.all l7 D.free=true) <|
        some (D.sl Tag.own l7)))
      (((List.replicate (Int.toNat (↑(List.length l5):Int)) (D.int IntKind.u8 (0:Int)),a0,(↑(List.length a0):Int),(0:Int),PUnit.unit),PUnit.unit)))
theorem zrj (zaH:List D→Option D) (zbA:List D→Option D) (zaN:List D→Option D) (tga0:Tag) (a0:List D):denP Try.prog (zay [(ID.wattleref01_alike,(.pure [0] zaH)),(ID.wattleref01_Pow,(.pure [0] zbA)),(ID.wattleref01_Mul,(.pure [0] zaN))]) ziu [1] ID.wattleref01_Q [.sl tga0 a0]=zg9 zaH zbA zaN (D.lentL a0):=by kernel_rfl
theorem znR (tga0:Tag) (a0:List D):zbL [.sl tga0 a0]=zg9 zaH zbA zaN (D.lentL a0):=zrj zaH zbA zaN tga0 a0
def zgh:Ann:={ loops:=[(1,[.dead,.val (.cell (.int .i64)),.val (.cell .lent),.box true [(.int .i64),(.int .i64),(.int .i64)],.dead,.dead,.dead,.dead,.own 1,.dead,.dead,.dead,.dead,.dead,.dead,.dead,.dead,.dead,.dead,.dead,.dead,.dead,.dead,.dead,.dead,.dead,.dead,.val (.cell .lent),.val (.cell (.int .i64)),.val (.cell (.int .i64))])] }
noncomputable def zbp:List D→Option D:=denP Try.prog (zay [(ID.wattleref01_fine,(.pure [0] zaq)),(ID.wattleref01_Width,(.pure [0] zaf)),(ID.wattleref01_Disk,(.pure [0] zbh)),(ID.wattleref01_Parity,(.pure [0,0] zaA)),(ID.wattleref01_P,(.pure [1] zbK)),(ID.wattleref01_Q,(.pure [1] zbL))]) zgh [1,0] ID.wattleref01_Fill
theorem zjN:za7 Try.prog ID.wattleref01_Fill (.pure [1,0] zbp):=zat (zaC [zdW,zcU,zkJ,ze3,znO,znQ]) zbB ⟨Try.f39,by kernel_rfl,by kernel_rfl,by kernel_rfl⟩
noncomputable def zkN:Fact Try.prog:=⟨ID.wattleref01_Fill,(.pure [1,0] zbp),zjN⟩
noncomputable def ze5 (zaq:List D→Option D) (zaf:List D→Option D) (zbh:List D→Option D) (zaA:List D→Option D) (zbK:List D→Option D) (zbL:List D→Option D) (a0_0:Int) (a0_1:Int) (a0_2:Int) (a1:Int) (a2:List D):Option D:=
  zar (zaq [D.agg [D.int IntKind.i64 a0_0,D.int IntKind.i64 a0_1,D.int IntKind.i64 a0_2],D.int IntKind.i64 a1]) fun r1=>
  asB r1 fun b2=>
  brK (!b2)
    (some (D.tup [D.sl Tag.own [],D.bool false]))
    (zar (zaf [D.agg [D.int IntKind.i64 a0_0,D.int IntKind.i64 a0_1,D.int IntKind.i64 a0_2]]) fun r3=>
    asI IntKind.i64 r3 fun i4=>
    brK ((↑(List.length a2):Int) != i4)
      (some (D.tup [D.sl Tag.own [],D.bool false]))
      (sif ((0:Int)≤a0_1) <|
      sif (a0_1=a0_1) <|
      sif (a0_1*(24:Int)≤(140737488355328:Int)) <|
      sif (a0_1≤(140737488355328:Int)) <|
      sif (Int.toNat a0_1=List.length (List.replicate (Int.toNat a0_1) (D.sl Tag.nil []))) <|
      zcd (α:=(Int×List D×(Int×Int×Int×PUnit)×List D×List D×Int×Int×PUnit)×PUnit) (fun again5 ((i6,(l7,((i8,(i9,(i10,_))),(l11,(l12,(i13,(i14,_))))))),_)=>
        brK (decide (i14 < i13))
          (sif ((0:Int)≤i14) <|
          getK l12 (Int.toNat i14) fun d15=>
          asSl d15 fun t16 l17=>
          brK ((↑(List.length l17):Int) != (32:Int))
            (some (D.tup [D.sl Tag.own [],D.bool false]))
            (zar (zbh [D.agg [D.int IntKind.i64 i8,D.int IntKind.i64 i9,D.int IntKind.i64 i10],D.int IntKind.i64 i6,D.int IntKind.i64 i14]) fun r18=>
            asI IntKind.i64 r18 fun i19=>
            sif (List.length l17≤(4294967296:Nat)) <|
            sif (zeb (1:Nat) l17=true) <|
            sif ((0:Int)≤i19) <|
            sif (Int.toNat i19 < List.length l11) <|
            sif ((0:Nat)+List.length l17≤List.length l17) <|
            getK l11 ((0:Nat)+Int.toNat i19) fun d20=>
            sif ((0:Nat)+List.length l17≤List.length l17) <|
            sif (D.isAgg d20=false) <|
            letN (IntKind.wrap IntKind.i64 (i14+(1:Int))) fun n21=>
            sif (List.length l11=List.length (List.set l11 ((0:Nat)+Int.toNat i19) (D.sl Tag.fresh (cut (0:Nat) (List.length l17) l17)))) <|
            again5 (((i6,l7,(i8,i9,i10,PUnit.unit),List.set l11 ((0:Nat)+Int.toNat i19) (D.sl Tag.fresh (cut (0:Nat) (List.length l17) l17)),l12,i13,n21,PUnit.unit),PUnit.unit))))
          (zar (zaA [D.agg [D.int IntKind.i64 i8,D.int IntKind.i64 i9,D.int IntKind.i64 i10],D.int IntKind.i64 i6]) fun r22=>
          zd5 r22 fun ts23=>
          zaw ([Lf.any,Lf.any]) ts23 fun c24=>
          asI IntKind.i64 c24.fst fun i25=>
          asI IntKind.i64 c24.snd.fst fun i26=>
          zar (zbK [D.sl Tag.lent l7]) fun r27=>
          za4 r27 fun l28=>
          sif ((0:Int)≤i25) <|
          sif (Int.toNat i25 < List.length l11) <|
          sif ((0:Nat)+List.length l28≤List.length l28) <|
          getK l11 ((0:Nat)+Int.toNat i25) fun d29=>
          sif ((0:Nat)+List.length l28≤List.length l28) <|
          sif (D.isAgg d29=false) <|
          brK (decide (i26≥(0:Int)))
            (zar (zbL [D.sl Tag.lent l7]) fun r30=>
            za4 r30 fun l31=>
            sif ((0:Int)≤i26) <|
            sif (Int.toNat i26 < List.length l11) <|
            sif ((0:Nat)+List.length l31≤List.length l31) <|
            getK (List.set l11 ((0:Nat)+Int.toNat i25) (D.sl Tag.fresh (cut (0:Nat) (List.length l28) l28))) ((0:Nat)+Int.toNat i26) fun d32=>
            sif ((0:Nat)+List.length l31≤List.length l31) <|
            sif (D.isAgg d32=false) <|
            sif (List.length l11=List.length (List.set (List.set l11 ((0:Nat)+Int.toNat i25) (D.sl Tag.fresh (cut (0:Nat) (List.length l28) l28))) ((0:Nat)+Int.toNat i26) (D.sl Tag.fresh (cut (0:Nat) (List.length l31) l31)))) <|
            sif (List.all (List.set (List.set l11 ((0:Nat)+Int.toNat i25) (D.sl Tag.fresh (cut (0:Nat) (List.length l28) l28))) ((0:Nat)+Int.toNat i26) (D.sl Tag.fresh (cut (0:Nat) (List.length l31) l31))) D.free=true) <|
            some (D.tup [D.sl Tag.own (List.set (List.set l11 ((0:Nat)+Int.toNat i25) (D.sl Tag.fresh (cut (0:Nat) (List.length l28) l28))) ((0:Nat)+Int.toNat i26) (D.sl Tag.fresh (cut (0:Nat) (List.length l31) l31))),D.bool true]))
            (sif (List.length l11=List.length (List.set l11 ((0:Nat)+Int.toNat i25) (D.sl Tag.fresh (cut (0:Nat) (List.length l28) l28)))) <|
            sif (List.all (List.set l11 ((0:Nat)+Int.toNat i25) (D.sl Tag.fresh (cut (0:Nat) (List.length l28) l28))) D.free=true) <|
            some (D.tup [D.sl Tag.own (List.set l11 ((0:Nat)+Int.toNat i25) (D.sl Tag.fresh (cut (0:Nat) (List.length l28) l28))),D.bool true]))))
        (((a1,a2,(a0_0,a0_1,a0_2,PUnit.unit),List.replicate (Int.toNat a0_1) (D.sl Tag.nil []),a2,(↑(List.length a2):Int),(0:Int),PUnit.unit),PUnit.unit))))
theorem znS (zaq:List D→Option D) (zaf:List D→Option D) (zbh:List D→Option D) (zaA:List D→Option D) (zbK:List D→Option D) (zbL:List D→Option D) (tga2:Tag) (a0_0:Int) (a0_1:Int) (a0_2:Int) (a1:Int) (a2:List D):denP Try.prog (zay [(ID.wattleref01_fine,(.pure [0] zaq)),(ID.wattleref01_Width,(.pure [0] zaf)),(ID.wattleref01_Disk,(.pure [0] zbh)),(ID.wattleref01_Parity,(.pure [0,0] zaA)),(ID.wattleref01_P,(.pure [1] zbK)),(ID.wattleref01_Q,(.pure [1] zbL))]) zgh [1,0] ID.wattleref01_Fill [.agg [.int .i64 a0_0,.int .i64 a0_1,.int .i64 a0_2],.int .i64 a1,.sl tga2 a2]=ze5 zaq zaf zbh zaA zbK zbL a0_0 a0_1 a0_2 a1 (D.lentL a2):=by kernel_rfl
theorem zkO (tga2:Tag) (a0_0:Int) (a0_1:Int) (a0_2:Int) (a1:Int) (a2:List D):zbp [.agg [.int .i64 a0_0,.int .i64 a0_1,.int .i64 a0_2],.int .i64 a1,.sl tga2 a2]=ze5 zaq zaf zbh zaA zbK zbL a0_0 a0_1 a0_2 a1 (D.lentL a2):=znS zaq zaf zbh zaA zbK zbL tga2 a0_0 a0_1 a0_2 a1 a2
def zfj:Ann:={ loops:=[],hints:=[(1,.at1 (.int .i64))] }
noncomputable def zaF:List D→Option D:=denP Try.prog (zay []) zfj [0] ID.disk_Disk_Damage_1
theorem ziv:za7 Try.prog ID.disk_Disk_Damage_1 (.pure [0] zaF):=zat (zaC []) zbB ⟨Try.f126,by kernel_rfl,by kernel_rfl,by kernel_rfl⟩
noncomputable def ze6:Fact Try.prog:=⟨ID.disk_Disk_Damage_1,(.pure [0] zaF),ziv⟩
noncomputable def zel (a0:List D) (c0:Int):Option D:=
  zaw ([Lf.int IntKind.i64,Lf.arr (32)]) a0 fun c1=>
  some (D.bool (c1.fst == c0))
theorem zlP (a0:List D) (c0:Int):denP Try.prog (zay []) zfj [0] ID.disk_Disk_Damage_1 [.agg a0,.at_ (.int .i64 c0)]=zel (D.lentL a0) c0:=by kernel_rfl
theorem zjb (a0:List D) (c0:Int):zaF [.agg a0,.at_ (.int .i64 c0)]=zel (D.lentL a0) c0:=zlP a0 c0
def zck:Ann:={ loops:=[(0,[.val (.cell .lent),.val (.fn1 (126:FuncId) (.int .i64)),.dead,.dead,.dead,.dead,.dead,.val (.cell (.int .i64)),.val (.cell (.int .i64))])] }
noncomputable def zan:List D→Option D:=denP Try.prog (zay [(ID.disk_Disk_Damage_1,(.pure [0] zaF))]) zck [0] ID.slices_IndexFunc_disk_write_disk_write
theorem zdl:za7 Try.prog ID.slices_IndexFunc_disk_write_disk_write (.pure [0] zan):=zat (zaC [ze6]) zbB ⟨Try.f139,by kernel_rfl,by kernel_rfl,by kernel_rfl⟩
noncomputable def zds:Fact Try.prog:=⟨ID.slices_IndexFunc_disk_write_disk_write,(.pure [0] zan),zdl⟩
noncomputable def zbE (zaF:List D→Option D) (a0:List D) (c0:Int):Option D:=
  zcd (α:=(List D×Int×Int×Int×PUnit)×PUnit) (fun again1 ((l2,(i3,(i4,(i5,_)))),_)=>
    brK (decide (i5 < i4))
      (sif ((0:Int)≤i5) <|
      getK l2 (Int.toNat i5) fun d6=>
      asAgg d6 fun cs7=>
      zaw ([Lf.int IntKind.i64,Lf.arr (32)]) cs7 fun c8=>
      sif (D.width (D.agg ([D.int IntKind.i64 c8.fst]++(c8.snd.fst++[])))=(33:Nat)) <|
      zaw ([Lf.int IntKind.i64,Lf.arr (32)]) ([D.int IntKind.i64 c8.fst]++(c8.snd.fst++[])) fun c9=>
      sif (D.width (D.agg ([D.int IntKind.i64 c9.fst]++(c9.snd.fst++[])))=(33:Nat)) <|
      zar (zaF [D.agg ([D.int IntKind.i64 c9.fst]++(c9.snd.fst++[])),D.at_ (D.int IntKind.i64 i3)]) fun r10=>
      asB r10 fun b11=>
      brK b11
        (some (D.int IntKind.i64 i5))
        (letN (IntKind.wrap IntKind.i64 (i5+(1:Int))) fun n12=>
        again1 (((l2,i3,i4,n12,PUnit.unit),PUnit.unit))))
      (some (D.int IntKind.i64 (-1:Int))))
    (((a0,c0,(↑(List.length a0):Int),(0:Int),PUnit.unit),PUnit.unit))
theorem zc5 (zaF:List D→Option D) (tga0:Tag) (a0:List D) (c0:Int):denP Try.prog (zay [(ID.disk_Disk_Damage_1,(.pure [0] zaF))]) zck [0] ID.slices_IndexFunc_disk_write_disk_write [.sl tga0 a0,.fn 126 [] [.at_ (.int .i64 c0)]]=zbE zaF (D.lentL a0) c0:=by kernel_rfl
theorem zcP (tga0:Tag) (a0:List D) (c0:Int):zan [.sl tga0 a0,.fn 126 [] [.at_ (.int .i64 c0)]]=zbE zaF (D.lentL a0) c0:=zc5 zaF tga0 a0 c0
def zcj:Ann:={ loops:=[(1,[.own 33,.val (.fn1 (126:FuncId) (.int .i64)),.dead,.dead,.dead,.val (.cell (.int .i64)),.val (.cell (.int .i64))])],pms:=[(.own,33)] }
noncomputable def zal:List D→List Tb→Option Ans:=denS Try.prog (zay [(ID.slices_IndexFunc_disk_write_disk_write,(.pure [0] zan)),(ID.disk_Disk_Damage_1,(.pure [0] zaF))]) zcj [33] ID.slices_DeleteFunc_disk_write_disk_write
theorem zdj:za7 Try.prog ID.slices_DeleteFunc_disk_write_disk_write (.st [(.own,33)] [33] [] zal):=zbc (zaC [zds,ze6]) zbB ⟨Try.f125,by kernel_rfl,by kernel_rfl,by kernel_rfl⟩
noncomputable def zdm:Fact Try.prog:=⟨ID.slices_DeleteFunc_disk_write_disk_write,(.st [(.own,33)] [33] [] zal),zdj⟩
noncomputable def zbu (zan:List D→Option D) (zaF:List D→Option D) (a0:List D) (c0:Int):Option Ans:=
  sif ((0:Nat)+List.length a0≤List.length a0) <|
  zar (zan [D.sl Tag.lent (cut (0:Nat) (List.length a0) a0),D.fn (126:FuncId) [] [D.at_ (D.int IntKind.i64 c0)]]) fun r1=>
  asI IntKind.i64 r1 fun i2=>
  brK (i2 == (-1:Int))
    (sif (List.length a0=List.length a0) <|
    sif (List.all a0 D.free=true) <|
    some (Ans.mk (D.sl Tag.own a0) [] []))
    (letN (IntKind.wrap IntKind.i64 (i2+(1:Int))) fun n3=>
    none)
theorem zcZ (zan:List D→Option D) (zaF:List D→Option D) (a0:List D) (c0:Int):denS Try.prog (zay [(ID.slices_IndexFunc_disk_write_disk_write,(.pure [0] zan)),(ID.disk_Disk_Damage_1,(.pure [0] zaF))]) zcj [33] ID.slices_DeleteFunc_disk_write_disk_write [.sl .own a0,.fn 126 [] [.at_ (.int .i64 c0)]] []=zbu zan zaF a0 c0:=by kernel_rfl
theorem zcK (a0:List D) (c0:Int):zal [.sl .own a0,.fn 126 [] [.at_ (.int .i64 c0)]] []=zbu zan zaF a0 c0:=zcZ zan zaF a0 c0
def zgi:Ann:={ loops:=[],ks:=[(7649,true)] }
noncomputable def zbq:List D→List Tb→Option Ans:=denS Try.prog (zay [(ID.disk_Disk_put,(.st [] [0,0] [(7649,false)] zaW)),(ID.slices_Clone_disk_write_disk_write,(.pure [33] zad)),(ID.slices_DeleteFunc_disk_write_disk_write,(.st [(.own,33)] [33] [] zal))]) zgi [0] ID.disk_Disk_Damage
theorem zjO:za7 Try.prog ID.disk_Disk_Damage (.st [] [0] [(7649,true)] zbq):=zbc (zaC [zht,zcv,zdm]) zbB ⟨Try.f100,by kernel_rfl,by kernel_rfl,by kernel_rfl⟩
noncomputable def zkP:Fact Try.prog:=⟨ID.disk_Disk_Damage,(.st [] [0] [(7649,true)] zbq),zjO⟩
noncomputable def ze7 (zaW:List D→List Tb→Option Ans) (zad:List D→Option D) (zal:List D→List Tb→Option Ans) (a0:Nat) (a1:Int) (a2:List D) (T0:Tb):Option Ans:=
  zar (zaW [D.h (7649:Nat) a0 (0:Nat),D.int IntKind.i64 a1,D.sl Tag.lent a2] [T0]) fun r1=>
  nilK r1.outs <|
  nilK r1.tbs <|
  zd5 r1.r fun ts2=>
  zaw ([Lf.any,Lf.any]) ts2 fun c3=>
  asAgg c3.fst fun cs4=>
  zaw ([Lf.int IntKind.i64,Lf.arr (32)]) cs4 fun c5=>
  asI IntKind.i64 c3.snd.fst fun i6=>
  sif (List.length ([D.int IntKind.i64 c5.fst]++(c5.snd.fst++[]))=(33:Nat)) <|
  brK (i6 != (0:Int))
    (some (Ans.mk (D.int IntKind.i64 i6) [] [T0]))
    (sif ((33:Nat)≤List.length ([D.int IntKind.i64 c5.fst]++(c5.snd.fst++[]))) <|
    sif (List.length (List.take (32:Nat) (List.drop (1:Nat) ([D.int IntKind.i64 c5.fst]++(c5.snd.fst++[]))))=(32:Nat)) <|
    sif ((0:Int)≤a1) <|
    sif (Int.toNat a1 < (52:Nat)) <|
    getK T0 a0 fun d7=>
    sif ((0:Nat)+Int.toNat a1*(32:Nat)+(32:Nat)≤List.length d7) <|
    sif (List.length (List.take (32:Nat) (List.drop (1:Nat) ([D.int IntKind.i64 c5.fst]++(c5.snd.fst++[]))))=(32:Nat)) <|
    sif (zhy (List.take (32:Nat) (List.drop (1:Nat) ([D.int IntKind.i64 c5.fst]++(c5.snd.fst++[]))))=true) <|
    sif (zhy (List.take (32:Nat) (List.drop ((0:Nat)+Int.toNat a1*(32:Nat)) d7))=true) <|
    letT (zaZ T0 a0 ((0:Nat)+Int.toNat a1*(32:Nat)) (List.take (32:Nat) (List.drop (1:Nat) ([D.int IntKind.i64 c5.fst]++(c5.snd.fst++[]))))) fun U8=>
    getK U8 a0 fun d9=>
    getK d9 ((1664:Nat)) fun d10=>
    za4 d10 fun l11=>
    getK U8 a0 fun d12=>
    getK d12 ((1664:Nat)) fun d13=>
    za4 d13 fun l14=>
    sif ((0:Nat)+List.length l11≤List.length l14) <|
    zar (zad [D.sl Tag.lent (cut (0:Nat) (List.length l11) l14)]) fun r15=>
    za4 r15 fun l16=>
    sif (List.length l16=List.length l16) <|
    sif (zdf l16=true) <|
    zar (zal [D.sl Tag.own l16,D.fn (126:Nat) [] [D.at_ (D.int IntKind.i64 a1)]] []) fun r17=>
    nilK r17.outs <|
    nilK r17.tbs <|
    za4 r17.r fun l18=>
    sif ((0:Nat)+List.length l18≤List.length l18) <|
    getK U8 a0 fun d19=>
    sif ((1665:Nat)≤List.length d19) <|
    sif (List.length l18=List.length l18) <|
    sif (zdf l18=true) <|
    sif (zfJ (33:Nat) l18=true) <|
    letT (zaZ U8 a0 (1664:Nat) [D.sl Tag.own l18]) fun U20=>
    some (Ans.mk (D.int IntKind.i64 (0:Int)) [] [U20]))
theorem znT (zaW:List D→List Tb→Option Ans) (zad:List D→Option D) (zal:List D→List Tb→Option Ans) (tga2:Tag) (a0:Nat) (a1:Int) (a2:List D) (T0:Tb):denS Try.prog (zay [(ID.disk_Disk_put,(.st [] [0,0] [(7649,false)] zaW)),(ID.slices_Clone_disk_write_disk_write,(.pure [33] zad)),(ID.slices_DeleteFunc_disk_write_disk_write,(.st [(.own,33)] [33] [] zal))]) zgi [0] ID.disk_Disk_Damage [.h 7649 a0 0,.int .i64 a1,.sl tga2 a2] [T0]=ze7 zaW zad zal a0 a1 (D.lentL a2) T0:=by kernel_rfl
theorem zkQ (tga2:Tag) (a0:Nat) (a1:Int) (a2:List D) (T0:Tb):zbq [.h 7649 a0 0,.int .i64 a1,.sl tga2 a2] [T0]=ze7 zaW zad zal a0 a1 (D.lentL a2) T0:=znT zaW zad zal tga2 a0 a1 a2 T0
def zfk:Ann:={ loops:=[],ks:=[(3840,false),(7649,true)] }
noncomputable def zbb:List D→List Tb→Option Ans:=denS Try.prog (zay [(ID.bench_Bench_is,(.st [] [0] [(3840,false)] zah)),(ID.disk_Disk_Damage,(.st [] [0] [(7649,true)] zbq))]) zfk [0] ID.bench_Bench_Damage
theorem ziw:za7 Try.prog ID.bench_Bench_Damage (.st [] [0] [(3840,false),(7649,true)] zbb):=zbc (zaC [zcO,zkP]) zbB ⟨Try.f65,by kernel_rfl,by kernel_rfl,by kernel_rfl⟩
noncomputable def zjc:Fact Try.prog:=⟨ID.bench_Bench_Damage,(.st [] [0] [(3840,false),(7649,true)] zbb),ziw⟩
noncomputable def zem (zah:List D→List Tb→Option Ans) (zbq:List D→List Tb→Option Ans) (a0:Nat) (a1:Int) (a2:Int) (a3:List D) (T0:Tb) (T1:Tb):Option Ans:=
  zar (zah [D.h (3840:Nat) a0 (0:Nat),D.int IntKind.i64 a1] [T0]) fun r1=>
  nilK r1.outs <|
  nilK r1.tbs <|
  asB r1.r fun b2=>
  brK (!b2)
    (some (Ans.mk (D.int IntKind.i64 (1:Int)) [] [T1]))
    (getK T0 a0 fun d3=>
    getK d3 ((3:Nat)) fun d4=>
    za4 d4 fun l5=>
    getK T0 a0 fun d6=>
    getK d6 ((3:Nat)) fun d7=>
    za4 d7 fun l8=>
    sif ((0:Int)≤a1) <|
    sif (Int.toNat a1 < List.length l5) <|
    getK T0 a0 fun d9=>
    getK d9 ((3:Nat)) fun d10=>
    za4 d10 fun l11=>
    getK l11 ((0:Nat)+Int.toNat a1) fun d12=>
    sif (D.isAgg d12=false) <|
    sif (D.width d12=(1:Nat)) <|
    sif (D.cell d12=true) <|
    zar (zbq [d12,D.int IntKind.i64 a2,D.sl Tag.lent a3] [T1]) fun r13=>
    nilK r13.outs <|
    zcq r13.tbs fun c14 q15=>
    nilK q15 <|
    asI IntKind.i64 r13.r fun i16=>
    some (Ans.mk (D.int IntKind.i64 i16) [] [c14]))
theorem zlQ (zah:List D→List Tb→Option Ans) (zbq:List D→List Tb→Option Ans) (tga3:Tag) (a0:Nat) (a1:Int) (a2:Int) (a3:List D) (T0:Tb) (T1:Tb):denS Try.prog (zay [(ID.bench_Bench_is,(.st [] [0] [(3840,false)] zah)),(ID.disk_Disk_Damage,(.st [] [0] [(7649,true)] zbq))]) zfk [0] ID.bench_Bench_Damage [.h 3840 a0 0,.int .i64 a1,.int .i64 a2,.sl tga3 a3] [T0,T1]=zem zah zbq a0 a1 a2 (D.lentL a3) T0 T1:=by kernel_rfl
theorem zjd (tga3:Tag) (a0:Nat) (a1:Int) (a2:Int) (a3:List D) (T0:Tb) (T1:Tb):zbb [.h 3840 a0 0,.int .i64 a1,.int .i64 a2,.sl tga3 a3] [T0,T1]=zem zah zbq a0 a1 a2 (D.lentL a3) T0 T1:=zlQ zah zbq tga3 a0 a1 a2 a3 T0 T1
def zeN:Ann:={ loops:=[(1,[.val (.cell .lent),.val (.cell .lent),.dead,.dead,.dead,.val (.cell (.int .i64))])] }
noncomputable def zaP:List D→Option D:=denP Try.prog (zay []) zeN [0] ID.wattlekeep_Same_byte
theorem zhe:za7 Try.prog ID.wattlekeep_Same_byte (.pure [0] zaP):=zat (zaC []) zbB ⟨Try.f30,by kernel_rfl,by kernel_rfl,by kernel_rfl⟩
noncomputable def zhL:Fact Try.prog:=⟨ID.wattlekeep_Same_byte,(.pure [0] zaP),zhe⟩
noncomputable def zdC (a0:List D) (a1:List D):Option D:=
  brK ((↑(List.length a0):Int) != (↑(List.length a1):Int))
    (some (D.bool false))
    (zcd (α:=(List D×List D×Int×PUnit)×PUnit) (fun again1 ((l2,(l3,(i4,_))),_)=>
      brK (decide (i4 < (↑(List.length l2):Int)))
        (sif ((0:Int)≤i4) <|
        getK l2 (Int.toNat i4) fun d5=>
        asI IntKind.u8 d5 fun i6=>
        sif ((0:Int)≤i4) <|
        getK l3 (Int.toNat i4) fun d7=>
        asI IntKind.u8 d7 fun i8=>
        brK (i6 != i8)
          (some (D.bool false))
          (letN (IntKind.wrap IntKind.i64 (i4+(1:Int))) fun n9=>
          again1 (((l2,l3,n9,PUnit.unit),PUnit.unit))))
        (some (D.bool true)))
      (((a0,a1,(0:Int),PUnit.unit),PUnit.unit)))
theorem zjP (tga0:Tag) (tga1:Tag) (a0:List D) (a1:List D):denP Try.prog (zay []) zeN [0] ID.wattlekeep_Same_byte [.sl tga0 a0,.sl tga1 a1]=zdC (D.lentL a0) (D.lentL a1):=by kernel_rfl
theorem zhM (tga0:Tag) (tga1:Tag) (a0:List D) (a1:List D):zaP [.sl tga0 a0,.sl tga1 a1]=zdC (D.lentL a0) (D.lentL a1):=zjP tga0 tga1 a0 a1
def zjp:Ann:={ loops:=[(1,[.val (.cell (.hnd (3840:Nat))),.val (.cell .lent),.dead,.val (.cell (.int .i64)),.dead,.dead,.dead,.dead,.dead,.dead,.dead,.dead,.dead,.dead,.dead,.dead,.dead,.dead,.dead,.dead,.dead,.dead,.dead,.dead,.dead,.own 1,.val (.cell (.int .i64)),.val (.cell (.int .i64))])],ks:=[(3840,true),(7649,true)] }
noncomputable def zhN:List D→List Tb→Option Ans:=denS Try.prog (zay [(ID.row_Fill,(.pure [1,0] zbT)),(ID.stripe_up,(.st [] [0] [(3840,false),(7649,false)] za6)),(ID.bench_Bench_Write,(.st [] [0] [(3840,true),(7649,true)] zaG))]) zjp [0] ID.stripe_Write
noncomputable def zhO (zbT:List D→Option D) (za6:List D→List Tb→Option Ans) (zaG:List D→List Tb→Option Ans) (a0:Nat) (a1:List D) (a2_0:Int) (a2_1:Int) (a2_2:Int) (a3:Int) (a4:List D) (T0:Tb) (T1:Tb):Option Ans:=
  zar (zbT [D.agg [D.int IntKind.i64 a2_0,D.int IntKind.i64 a2_1,D.int IntKind.i64 a2_2],D.int IntKind.i64 a3,D.sl Tag.lent a4]) fun r1=>
  zd5 r1 fun ts2=>
  zaw ([Lf.any,Lf.any]) ts2 fun c3=>
  za4 c3.fst fun l4=>
  asB c3.snd.fst fun b5=>
  brK (!b5)
    (some (Ans.mk (D.int IntKind.i64 (1:Int)) [] [T0,T1]))
    (sif ((0:Nat)+List.length l4≤List.length l4) <|
    sif (List.length l4=List.length l4) <|
    zcd (α:=(Nat×List D×Int×List D×Int×Int×PUnit)×List (List D)×List (List D)×PUnit) (fun again6 ((x7,(l8,(i9,(l10,(i11,(i12,_)))))),(U13,(U14,_)))=>
      brK (decide (i12 < i11))
        (sif ((0:Int)≤i12) <|
        sif (Int.toNat i12 < List.length l10) <|
        getK l10 ((0:Nat)+Int.toNat i12) fun d15=>
        asSl d15 fun t16 l17=>
        zar (za6 [D.h (3840) x7 (0:Nat),D.sl Tag.lent l8,D.int IntKind.i64 i12] [U13,U14]) fun r18=>
        nilK r18.outs <|
        nilK r18.tbs <|
        asB r18.r fun b19=>
        brK (!b19)
          (letN (IntKind.wrap IntKind.i64 (i12+(1:Int))) fun n20=>
          sif (List.length l10=List.length l10) <|
          again6 (((x7,l8,i9,l10,i11,n20,PUnit.unit),U13,U14,PUnit.unit)))
          (letN (IntKind.wrap IntKind.i64 ((36:Int)+i9)) fun n21=>
          zar (zaG [D.h (3840) x7 (0:Nat),D.int IntKind.i64 i12,D.int IntKind.i64 n21,D.sl t16 l17] [U13,U14]) fun r22=>
          nilK r22.outs <|
          zcq r22.tbs fun c23 q24=>
          zcq q24 fun c25 q26=>
          nilK q26 <|
          asI IntKind.i64 r22.r fun i27=>
          brK (i27 != (0:Int))
            (some (Ans.mk (D.int IntKind.i64 i27) [] [c23,c25]))
            (letN (IntKind.wrap IntKind.i64 (i12+(1:Int))) fun n28=>
            sif (List.length l10=List.length l10) <|
            again6 (((x7,l8,i9,l10,i11,n28,PUnit.unit),c23,c25,PUnit.unit)))))
        (some (Ans.mk (D.int IntKind.i64 (0:Int)) [] [U13,U14])))
      (((a0,a1,a3,l4,(↑(List.length l4):Int),(0:Int),PUnit.unit),T0,T1,PUnit.unit)))
theorem zrV (zbT:List D→Option D) (za6:List D→List Tb→Option Ans) (zaG:List D→List Tb→Option Ans) (tga1:Tag) (tga4:Tag) (a0:Nat) (a1:List D) (a2_0:Int) (a2_1:Int) (a2_2:Int) (a3:Int) (a4:List D) (T0:Tb) (T1:Tb):denS Try.prog (zay [(ID.row_Fill,(.pure [1,0] zbT)),(ID.stripe_up,(.st [] [0] [(3840,false),(7649,false)] za6)),(ID.bench_Bench_Write,(.st [] [0] [(3840,true),(7649,true)] zaG))]) zjp [0] ID.stripe_Write [.h 3840 a0 0,.sl tga1 a1,.agg [.int .i64 a2_0,.int .i64 a2_1,.int .i64 a2_2],.int .i64 a3,.sl tga4 a4] [T0,T1]=zhO zbT za6 zaG a0 (D.lentL a1) a2_0 a2_1 a2_2 a3 (D.lentL a4) T0 T1:=by kernel_rfl
theorem zoM (tga1:Tag) (tga4:Tag) (a0:Nat) (a1:List D) (a2_0:Int) (a2_1:Int) (a2_2:Int) (a3:Int) (a4:List D) (T0:Tb) (T1:Tb):zhN [.h 3840 a0 0,.sl tga1 a1,.agg [.int .i64 a2_0,.int .i64 a2_1,.int .i64 a2_2],.int .i64 a3,.sl tga4 a4] [T0,T1]=zhO zbT za6 zaG a0 (D.lentL a1) a2_0 a2_1 a2_2 a3 (D.lentL a4) T0 T1:=zrV zbT za6 zaG tga1 tga4 a0 a1 a2_0 a2_1 a2_2 a3 a4 T0 T1
def zjq:Ann:={ loops:=[(0,[.val (.cell (.hnd (3840:Nat))),.val (.cell .lent),.dead,.dead,.dead,.dead,.dead,.dead,.val (.cell (.int .i64)),.val (.cell (.int .i64))])],ks:=[(3840,false),(7649,true)] }
noncomputable def zhP:List D→List Tb→Option Ans:=denS Try.prog (zay [(ID.bench_Bench_Len,(.st [] [0] [(3840,false)] zau)),(ID.stripe_up,(.st [] [0] [(3840,false),(7649,false)] za6)),(ID.bench_Bench_Flush,(.st [] [0] [(3840,false),(7649,true)] zaB))]) zjq [0] ID.stripe_Flush
noncomputable def zhQ (zau:List D→List Tb→Option Ans) (za6:List D→List Tb→Option Ans) (zaB:List D→List Tb→Option Ans) (a0:Nat) (a1:List D) (T0:Tb) (T1:Tb):Option Ans:=
  zar (zau [D.h (3840:Nat) a0 (0:Nat)] [T0]) fun r1=>
  nilK r1.outs <|
  nilK r1.tbs <|
  asI IntKind.i64 r1.r fun i2=>
  zcd (α:=(Nat×List D×Int×Int×PUnit)×List (List D)×List (List D)×PUnit) (fun again3 ((x4,(l5,(i6,(i7,_)))),(U8,(U9,_)))=>
    brK (decide (i7 < i6))
      (zar (za6 [D.h (3840) x4 (0:Nat),D.sl Tag.lent l5,D.int IntKind.i64 i7] [U8,U9]) fun r10=>
      nilK r10.outs <|
      nilK r10.tbs <|
      asB r10.r fun b11=>
      brK (!b11)
        (letN (IntKind.wrap IntKind.i64 (i7+(1:Int))) fun n12=>
        again3 (((x4,l5,i6,n12,PUnit.unit),U8,U9,PUnit.unit)))
        (zar (zaB [D.h (3840) x4 (0:Nat),D.int IntKind.i64 i7] [U8,U9]) fun r13=>
        nilK r13.outs <|
        zcq r13.tbs fun c14 q15=>
        nilK q15 <|
        asI IntKind.i64 r13.r fun i16=>
        brK (i16 != (0:Int))
          (some (Ans.mk (D.int IntKind.i64 i16) [] [c14]))
          (letN (IntKind.wrap IntKind.i64 (i7+(1:Int))) fun n17=>
          again3 (((x4,l5,i6,n17,PUnit.unit),U8,c14,PUnit.unit)))))
      (some (Ans.mk (D.int IntKind.i64 (0:Int)) [] [U9])))
    (((a0,a1,i2,(0:Int),PUnit.unit),T0,T1,PUnit.unit))
theorem zrW (zau:List D→List Tb→Option Ans) (za6:List D→List Tb→Option Ans) (zaB:List D→List Tb→Option Ans) (tga1:Tag) (a0:Nat) (a1:List D) (T0:Tb) (T1:Tb):denS Try.prog (zay [(ID.bench_Bench_Len,(.st [] [0] [(3840,false)] zau)),(ID.stripe_up,(.st [] [0] [(3840,false),(7649,false)] za6)),(ID.bench_Bench_Flush,(.st [] [0] [(3840,false),(7649,true)] zaB))]) zjq [0] ID.stripe_Flush [.h 3840 a0 0,.sl tga1 a1] [T0,T1]=zhQ zau za6 zaB a0 (D.lentL a1) T0 T1:=by kernel_rfl
theorem zoN (tga1:Tag) (a0:Nat) (a1:List D) (T0:Tb) (T1:Tb):zhP [.h 3840 a0 0,.sl tga1 a1] [T0,T1]=zhQ zau za6 zaB a0 (D.lentL a1) T0 T1:=zrW zau za6 zaB tga1 a0 a1 T0 T1
def zgj:Ann:={ loops:=[(1,[.dead,.dead,.val (.cell (.int .i64)),.val (.cell (.int .i64)),.val (.cell .lent),.box true [(.int .i64),(.int .i64),(.int .i64)],.box true [(.int .i64),(.int .i64),(.int .i64)],.dead,.dead,.dead,.dead,.ptr 3840,.dead,.val (.cell (.int .i64))]),(3,[.dead,.dead,.val (.cell (.int .i64)),.val (.cell (.int .i64)),.val (.cell .lent),.box true [(.int .i64),(.int .i64),(.int .i64)],.box true [(.int .i64),(.int .i64),(.int .i64)],.dead,.dead,.dead,.dead,.ptr 3840,.dead,.val (.cell (.int .i64)),.box true [(.int .i64),(.int .i64),(.int .i64)]]),(4,[.dead,.dead,.val (.cell (.int .i64)),.val (.cell (.int .i64)),.val (.cell .lent),.box true [(.int .i64),(.int .i64),(.int .i64)],.box true [(.int .i64),(.int .i64),(.int .i64)],.dead,.dead,.dead,.dead,.ptr 3840,.dead,.val (.cell (.int .i64)),.dead,.own 1,.val (.cell .bool),.val (.cell (.int .i64))])],ks:=[(3840,true),(7649,true)] }
noncomputable def zbi:List D→List Tb→Option Ans:=denS Try.prog (zay [(ID.bench_New,(.st [] [0,0] [(3840,true),(7649,true)] zbr)),(ID.wattleref01_Width,(.pure [0] zaf)),(ID.wattleplay_Sectors,(.pure [1] zba)),(ID.wattleref01_Fill,(.pure [1,0] zbp)),(ID.bench_Bench_Damage,(.st [] [0] [(3840,false),(7649,true)] zbb))]) zgj [0] ID.wattlelaw16_Both
theorem zjQ:za7 Try.prog ID.wattlelaw16_Both (.st [] [0] [(3840,true),(7649,true)] zbi):=zbc (zaC [zlX,zcU,zi7,zkN,zjc]) zbB ⟨Try.f50,by kernel_rfl,by kernel_rfl,by kernel_rfl⟩
noncomputable def zkR:Fact Try.prog:=⟨ID.wattlelaw16_Both,(.st [] [0] [(3840,true),(7649,true)] zbi),zjQ⟩
noncomputable def ze8 (zbr:List D→List Tb→Option Ans) (zaf:List D→Option D) (zba:List D→Option D) (zbp:List D→Option D) (zbb:List D→List Tb→Option Ans) (a0_0:Int) (a0_1:Int) (a0_2:Int) (a1_0:Int) (a1_1:Int) (a1_2:Int) (a2:Int) (a3:Int) (a4:List D) (T0:Tb) (T1:Tb):Option Ans:=
  zar (zbr [D.int IntKind.i64 a3] [T0,T1]) fun r1=>
  nilK r1.outs <|
  zcq r1.tbs fun c2 q3=>
  zcq q3 fun c4 q5=>
  nilK q5 <|
  zd5 r1.r fun ts6=>
  zaw ([Lf.any,Lf.any]) ts6 fun c7=>
  sif (zh7 c7.fst=true) <|
  asI IntKind.i64 c7.snd.fst fun i8=>
  brK (i8 != (0:Int))
    (some (Ans.mk D.nilp [] [c2,c4]))
    (zn5 c7.fst fun b9=>
    brK b9
      (some (Ans.mk D.nilp [] [c2,c4]))
      (zcd (α:=(Int×Int×List D×(Int×Int×Int×PUnit)×(Int×Int×Int×PUnit)×D×Int×PUnit)×List (List D)×List (List D)×PUnit) (fun again10 ((i11,(i12,(l13,((i14,(i15,(i16,_))),((i17,(i18,(i19,_))),(x20,(i21,_))))))),(U22,(U23,_)))=>
        brK (decide (i21 < (16:Int)))
          (jn (α:=(Int×Int×List D×(Int×Int×Int×PUnit)×(Int×Int×Int×PUnit)×D×Int×(Int×Int×Int×PUnit)×PUnit)×List (List D)×List (List D)×PUnit) (fun a24=>
              letN (min a24.fst.snd.snd.snd.snd.snd.snd.fst (↑(List.length a24.fst.snd.snd.fst):Int)) fun n25=>
              sif ((0:Int)≤n25) <|
              sif (n25≤(↑(List.length a24.fst.snd.snd.fst):Int)) <|
              sif ((↑(List.length a24.fst.snd.snd.fst):Int)≤(↑(List.length a24.fst.snd.snd.fst):Int)) <|
              sif ((↑(List.length a24.fst.snd.snd.fst):Int)=(↑(List.length a24.fst.snd.snd.fst):Int)) <|
              sif (zyH (1:Nat) a24.fst.snd.snd.fst=true) <|
              zar (zaf [D.agg [D.int IntKind.i64 a24.fst.snd.snd.snd.snd.snd.snd.snd.fst.fst,D.int IntKind.i64 a24.fst.snd.snd.snd.snd.snd.snd.snd.fst.snd.fst,D.int IntKind.i64 a24.fst.snd.snd.snd.snd.snd.snd.snd.fst.snd.snd.fst]]) fun r26=>
              asI IntKind.i64 r26 fun i27=>
              zar (zba [D.sl (zeq Tag.lent false (decide ((↑(List.length a24.fst.snd.snd.fst):Int)=(↑(List.length a24.fst.snd.snd.fst):Int)))) (cutI n25 (↑(List.length a24.fst.snd.snd.fst):Int) a24.fst.snd.snd.fst),D.int IntKind.i64 i27]) fun r28=>
              za4 r28 fun l29=>
              sif ((0:Nat)+List.length l29≤List.length l29) <|
              zar (zbp [D.agg [D.int IntKind.i64 a24.fst.snd.snd.snd.snd.snd.snd.snd.fst.fst,D.int IntKind.i64 a24.fst.snd.snd.snd.snd.snd.snd.snd.fst.snd.fst,D.int IntKind.i64 a24.fst.snd.snd.snd.snd.snd.snd.snd.fst.snd.snd.fst],D.int IntKind.i64 a24.fst.snd.snd.snd.snd.snd.snd.fst,D.sl Tag.lent (cut (0:Nat) (List.length l29) l29)]) fun r30=>
              zd5 r30 fun ts31=>
              zaw ([Lf.any,Lf.any]) ts31 fun c32=>
              za4 c32.fst fun l33=>
              asB c32.snd.fst fun b34=>
              sif (List.length l33=List.length l33) <|
              zcd (α:=(Int×Int×List D×(Int×Int×Int×PUnit)×(Int×Int×Int×PUnit)×D×Int×List D×Bool×Int×PUnit)×List (List D)×List (List D)×PUnit) (fun again35 ((i36,(i37,(l38,((i39,(i40,(i41,_))),((i42,(i43,(i44,_))),(x45,(i46,(l47,(b48,(i49,_)))))))))),(U50,(U51,_)))=>
                brK b48
                  (sif ((0:Nat)+List.length l47≤List.length l47) <|
                  brK (decide (i49 < (↑(List.length l47):Int)))
                    (brK (decide (i49 < i37))
                      (letN (IntKind.wrap IntKind.i64 ((36:Int)+i46)) fun n52=>
                      sif ((0:Int)≤i49) <|
                      sif (Int.toNat i49 < List.length l47) <|
                      getK l47 ((0:Nat)+Int.toNat i49) fun d53=>
                      asSl d53 fun t54 l55=>
                      zar (zbb [x45,D.int IntKind.i64 i49,D.int IntKind.i64 n52,D.sl t54 l55] [U50,U51]) fun r56=>
                      nilK r56.outs <|
                      zcq r56.tbs fun c57 q58=>
                      nilK q58 <|
                      asI IntKind.i64 r56.r fun i59=>
                      letN (IntKind.wrap IntKind.i64 (i49+(1:Int))) fun n60=>
                      sif (List.length l47=List.length l47) <|
                      again35 (((i36,i37,l38,(i39,i40,i41,PUnit.unit),(i42,i43,i44,PUnit.unit),x45,i46,l47,b48,n60,PUnit.unit),U50,c57,PUnit.unit)))
                      (letN (IntKind.wrap IntKind.i64 (i46+(1:Int))) fun n61=>
                      again10 (((i36,i37,l38,(i39,i40,i41,PUnit.unit),(i42,i43,i44,PUnit.unit),x45,n61,PUnit.unit),U50,U51,PUnit.unit))))
                    (letN (IntKind.wrap IntKind.i64 (i46+(1:Int))) fun n62=>
                    again10 (((i36,i37,l38,(i39,i40,i41,PUnit.unit),(i42,i43,i44,PUnit.unit),x45,n62,PUnit.unit),U50,U51,PUnit.unit))))
                  (letN (IntKind.wrap IntKind.i64 (i46+(1:Int))) fun n63=>
                  again10 (((i36,i37,l38,(i39,i40,i41,PUnit.unit),(i42,i43,i44,PUnit.unit),x45,n63,PUnit.unit),U50,U51,PUnit.unit))))
                (((a24.fst.fst,a24.fst.snd.fst,a24.fst.snd.snd.fst,(a24.fst.snd.snd.snd.fst.fst,a24.fst.snd.snd.snd.fst.snd.fst,a24.fst.snd.snd.snd.fst.snd.snd.fst,PUnit.unit),(a24.fst.snd.snd.snd.snd.fst.fst,a24.fst.snd.snd.snd.snd.fst.snd.fst,a24.fst.snd.snd.snd.snd.fst.snd.snd.fst,PUnit.unit),a24.fst.snd.snd.snd.snd.snd.fst,a24.fst.snd.snd.snd.snd.snd.snd.fst,l33,b34,(0:Int),PUnit.unit),a24.snd.fst,a24.snd.snd.fst,PUnit.unit)))
            (fun j64=>
            brK (decide (i21 < i11))
              (j64 (((i11,i12,l13,(i14,i15,i16,PUnit.unit),(i17,i18,i19,PUnit.unit),x20,i21,(i17,i18,i19,PUnit.unit),PUnit.unit),U22,U23,PUnit.unit)))
              (j64 (((i11,i12,l13,(i14,i15,i16,PUnit.unit),(i17,i18,i19,PUnit.unit),x20,i21,(i14,i15,i16,PUnit.unit),PUnit.unit),U22,U23,PUnit.unit)))))
          (sif (D.free x20=true) <|
          some (Ans.mk x20 [] [U22,U23])))
        (((a2,a3,a4,(a0_0,a0_1,a0_2,PUnit.unit),(a1_0,a1_1,a1_2,PUnit.unit),c7.fst,(0:Int),PUnit.unit),c2,c4,PUnit.unit))))
theorem znU (zbr:List D→List Tb→Option Ans) (zaf:List D→Option D) (zba:List D→Option D) (zbp:List D→Option D) (zbb:List D→List Tb→Option Ans) (tga4:Tag) (a0_0:Int) (a0_1:Int) (a0_2:Int) (a1_0:Int) (a1_1:Int) (a1_2:Int) (a2:Int) (a3:Int) (a4:List D) (T0:Tb) (T1:Tb):denS Try.prog (zay [(ID.bench_New,(.st [] [0,0] [(3840,true),(7649,true)] zbr)),(ID.wattleref01_Width,(.pure [0] zaf)),(ID.wattleplay_Sectors,(.pure [1] zba)),(ID.wattleref01_Fill,(.pure [1,0] zbp)),(ID.bench_Bench_Damage,(.st [] [0] [(3840,false),(7649,true)] zbb))]) zgj [0] ID.wattlelaw16_Both [.agg [.int .i64 a0_0,.int .i64 a0_1,.int .i64 a0_2],.agg [.int .i64 a1_0,.int .i64 a1_1,.int .i64 a1_2],.int .i64 a2,.int .i64 a3,.sl tga4 a4] [T0,T1]=ze8 zbr zaf zba zbp zbb a0_0 a0_1 a0_2 a1_0 a1_1 a1_2 a2 a3 (D.lentL a4) T0 T1:=by kernel_rfl
theorem zkS (tga4:Tag) (a0_0:Int) (a0_1:Int) (a0_2:Int) (a1_0:Int) (a1_1:Int) (a1_2:Int) (a2:Int) (a3:Int) (a4:List D) (T0:Tb) (T1:Tb):zbi [.agg [.int .i64 a0_0,.int .i64 a0_1,.int .i64 a0_2],.agg [.int .i64 a1_0,.int .i64 a1_1,.int .i64 a1_2],.int .i64 a2,.int .i64 a3,.sl tga4 a4] [T0,T1]=ze8 zbr zaf zba zbp zbb a0_0 a0_1 a0_2 a1_0 a1_1 a1_2 a2 a3 (D.lentL a4) T0 T1:=znU zbr zaf zba zbp zbb tga4 a0_0 a0_1 a0_2 a1_0 a1_1 a1_2 a2 a3 a4 T0 T1
def ze9:Ann:={ loops:=[],ks:=[(3840,true),(7649,true)] }
noncomputable def zaX:List D→List Tb→Option Ans:=denS Try.prog (zay [(ID.bench_Bench_is,(.st [] [0] [(3840,false)] zah)),(ID.disk_Disk_Failed,(.st [] [0] [(7649,false)] zaM)),(ID.disk_New,(.st [] [0] [(7649,true)] zbR))]) ze9 [0] ID.bench_Bench_Replace
theorem zhR:za7 Try.prog ID.bench_Bench_Replace (.st [] [0] [(3840,true),(7649,true)] zaX):=zbc (zaC [zcO,zfT,znr]) zbB ⟨Try.f52,by kernel_rfl,by kernel_rfl,by kernel_rfl⟩
noncomputable def zix:Fact Try.prog:=⟨ID.bench_Bench_Replace,(.st [] [0] [(3840,true),(7649,true)] zaX),zhR⟩
noncomputable def zdX (zah:List D→List Tb→Option Ans) (zaM:List D→List Tb→Option Ans) (zbR:List D→List Tb→Option Ans) (a0:Nat) (a1:Int) (T0:Tb) (T1:Tb):Option Ans:=
  zar (zah [D.h (3840:Nat) a0 (0:Nat),D.int IntKind.i64 a1] [T0]) fun r1=>
  nilK r1.outs <|
  nilK r1.tbs <|
  asB r1.r fun b2=>
  brK (!b2)
    (some (Ans.mk (D.int IntKind.i64 (1:Int)) [] [T0,T1]))
    (getK T0 a0 fun d3=>
    getK d3 ((3:Nat)) fun d4=>
    za4 d4 fun l5=>
    getK T0 a0 fun d6=>
    getK d6 ((3:Nat)) fun d7=>
    za4 d7 fun l8=>
    sif ((0:Int)≤a1) <|
    sif (Int.toNat a1 < List.length l5) <|
    getK T0 a0 fun d9=>
    getK d9 ((3:Nat)) fun d10=>
    za4 d10 fun l11=>
    getK l11 ((0:Nat)+Int.toNat a1) fun d12=>
    sif (D.isAgg d12=false) <|
    sif (D.width d12=(1:Nat)) <|
    sif (D.cell d12=true) <|
    zar (zaM [d12] [T1]) fun r13=>
    nilK r13.outs <|
    nilK r13.tbs <|
    asB r13.r fun b14=>
    brK (!b14)
      (some (Ans.mk (D.int IntKind.i64 (9:Int)) [] [T0,T1]))
      (getK T0 a0 fun d15=>
      getK d15 ((3:Nat)) fun d16=>
      za4 d16 fun l17=>
      zar (zbR [] [T1]) fun r18=>
      nilK r18.outs <|
      zcq r18.tbs fun c19 q20=>
      nilK q20 <|
      sif (zh7 r18.r=true) <|
      getK T0 a0 fun d21=>
      getK d21 ((3:Nat)) fun d22=>
      za4 d22 fun l23=>
      sif ((0:Int)≤a1) <|
      sif (Int.toNat a1 < List.length l17) <|
      asH ((7649:Nat)) r18.r fun h24=>
      getK T0 a0 fun d25=>
      getK d25 ((3:Nat)) fun d26=>
      za4 d26 fun l27=>
      getK l27 ((0:Nat)+Int.toNat a1) fun d28=>
      sif (D.isAgg d28=false) <|
      letT (setT T0 a0 (3:Nat) (D.sl Tag.own (List.set l27 ((0:Nat)+Int.toNat a1) (D.h (7649:Nat) h24 (0:Nat))))) fun U29=>
      some (Ans.mk (D.int IntKind.i64 (0:Int)) [] [U29,c19])))
theorem zkT (zah:List D→List Tb→Option Ans) (zaM:List D→List Tb→Option Ans) (zbR:List D→List Tb→Option Ans) (a0:Nat) (a1:Int) (T0:Tb) (T1:Tb):denS Try.prog (zay [(ID.bench_Bench_is,(.st [] [0] [(3840,false)] zah)),(ID.disk_Disk_Failed,(.st [] [0] [(7649,false)] zaM)),(ID.disk_New,(.st [] [0] [(7649,true)] zbR))]) ze9 [0] ID.bench_Bench_Replace [.h 3840 a0 0,.int .i64 a1] [T0,T1]=zdX zah zaM zbR a0 a1 T0 T1:=by kernel_rfl
theorem ziy (a0:Nat) (a1:Int) (T0:Tb) (T1:Tb):zaX [.h 3840 a0 0,.int .i64 a1] [T0,T1]=zdX zah zaM zbR a0 a1 T0 T1:=zkT zah zaM zbR a0 a1 T0 T1
def zf0:Ann:={ loops:=[],ks:=[(7649,false)] }
noncomputable def zbk:List D→List Tb→Option Ans:=denS Try.prog (zay []) zf0 [0] ID.disk_Disk_Pending
theorem zje:za7 Try.prog ID.disk_Disk_Pending (.st [] [0] [(7649,false)] zbk):=zbc (zaC []) zbB ⟨Try.f83,by kernel_rfl,by kernel_rfl,by kernel_rfl⟩
noncomputable def zjR:Fact Try.prog:=⟨ID.disk_Disk_Pending,(.st [] [0] [(7649,false)] zbk),zje⟩
noncomputable def zeG (a0:Nat) (T0:Tb):Option Ans:=
  getK T0 a0 fun d1=>
  getK d1 ((1664:Nat)) fun d2=>
  za4 d2 fun l3=>
  getK T0 a0 fun d4=>
  getK d4 ((1664:Nat)) fun d5=>
  za4 d5 fun l6=>
  sif ((0:Nat)+List.length l3≤List.length l6) <|
  some (Ans.mk (D.int IntKind.i64 (↑(List.length l3):Int)) [] [])
theorem zmP (a0:Nat) (T0:Tb):denS Try.prog (zay []) zf0 [0] ID.disk_Disk_Pending [.h 7649 a0 0] [T0]=zeG a0 T0:=by kernel_rfl
theorem zjS (a0:Nat) (T0:Tb):zbk [.h 7649 a0 0] [T0]=zeG a0 T0:=zmP a0 T0
def zfa:Ann:={ loops:=[(0,[.dead,.dead,.dead,.val (.cell (.int .i64)),.dead,.dead,.dead,.dead,.dead,.view 3840 3,.val (.cell (.int .i64)),.val (.cell (.int .i64))])],ks:=[(3840,false),(7649,false)] }
noncomputable def zaY:List D→List Tb→Option Ans:=denS Try.prog (zay [(ID.disk_Disk_Pending,(.st [] [0] [(7649,false)] zbk))]) zfa [0] ID.bench_Bench_Pending
theorem zhS:za7 Try.prog ID.bench_Bench_Pending (.st [] [0] [(3840,false),(7649,false)] zaY):=zbc (zaC [zjR]) zbB ⟨Try.f40,by kernel_rfl,by kernel_rfl,by kernel_rfl⟩
noncomputable def ziz:Fact Try.prog:=⟨ID.bench_Bench_Pending,(.st [] [0] [(3840,false),(7649,false)] zaY),zhS⟩
noncomputable def zdY (zbk:List D→List Tb→Option Ans) (a0:Nat) (T0:Tb) (T1:Tb):Option Ans:=
  getK T0 a0 fun d1=>
  getK d1 ((3:Nat)) fun d2=>
  za4 d2 fun l3=>
  getK T0 a0 fun d4=>
  getK d4 ((3:Nat)) fun d5=>
  za4 d5 fun l6=>
  sif ((0:Nat)+List.length l3≤List.length l6) <|
  zcd (α:=(Int×(Nat×Nat×Nat)×Int×Int×PUnit)×List (List D)×List (List D)×PUnit) (fun again7 ((i8,((x9,(x10,x11)),(i12,(i13,_)))),(U14,(U15,_)))=>
    brK (decide (i13 < i12))
      (getK U14 x9 fun d16=>
      getK d16 ((3:Nat)) fun d17=>
      za4 d17 fun l18=>
      sif ((0:Int)≤i13) <|
      sif (Int.toNat i13 < x11) <|
      getK U14 x9 fun d19=>
      getK d19 ((3:Nat)) fun d20=>
      za4 d20 fun l21=>
      getK l21 (x10+Int.toNat i13) fun d22=>
      sif (D.isAgg d22=false) <|
      sif (D.width d22=(1:Nat)) <|
      sif (D.cell d22=true) <|
      zar (zbk [d22] [U15]) fun r23=>
      nilK r23.outs <|
      nilK r23.tbs <|
      asI IntKind.i64 r23.r fun i24=>
      letN (IntKind.wrap IntKind.i64 (i8+i24)) fun n25=>
      letN (IntKind.wrap IntKind.i64 (i13+(1:Int))) fun n26=>
      again7 (((n25,(x9,x10,x11),i12,n26,PUnit.unit),U14,U15,PUnit.unit)))
      (some (Ans.mk (D.int IntKind.i64 i8) [] [])))
    ((((0:Int),(a0,(0:Nat),List.length l3),(↑(List.length l3):Int),(0:Int),PUnit.unit),T0,T1,PUnit.unit))
theorem zkU (zbk:List D→List Tb→Option Ans) (a0:Nat) (T0:Tb) (T1:Tb):denS Try.prog (zay [(ID.disk_Disk_Pending,(.st [] [0] [(7649,false)] zbk))]) zfa [0] ID.bench_Bench_Pending [.h 3840 a0 0] [T0,T1]=zdY zbk a0 T0 T1:=by kernel_rfl
theorem ziA (a0:Nat) (T0:Tb) (T1:Tb):zaY [.h 3840 a0 0] [T0,T1]=zdY zbk a0 T0 T1:=zkU zbk a0 T0 T1
end Wf

namespace Wf
open Go Go.RowKit Go.Proofs
set_option linter.unusedSimpArgs false
set_option linter.unusedVariables false
theorem zvM (c:Int):zaQ [.sl .full [.int .i64 1,.int .i64 2,.int .i64 4],.int .i64 c]=some (.bool (c == 1 || c == 2 || c == 4)):=by
  rw [zgt]
  unfold zc9
  rw [zhD]
  unfold zdB
  obtain ⟨m,hm⟩:=zAM
  by_cases h1:c=1<;>by_cases h2:c=2<;>by_cases h4:c=4<;>
    simp [zcd,hm,fixN,zcg,h1,h2,h4,zao]<;>omega
theorem zfC (l d c:Int):zak [gD l d c]=some (iD (if zdF l d c then 0 else 1)):=by
  rw [zq1]
  unfold zkm
  have hc:=zvM c
  unfold zdF
  obtain ⟨q,hq⟩:∃ q,(c == 1 || c == 2 || c == 4)=q:=⟨_,rfl⟩
  rw [hq] at hc ⊢
  by_cases h5:l=5
  · subst h5
    by_cases h3:d < 3<;>by_cases h8:8 < d<;>cases q<;>simp [zyI,zhZ,setD,hc,zcg,h3,h8]<;>omega
  · by_cases h6:l=6
    · subst h6
      by_cases h3:d < 4<;>by_cases h8:8 < d<;>cases q<;>simp [zyI,zhZ,setD,hc,zcg,h3,h8]<;>omega
    · simp [zyI,zhZ,setD,hc,zcg,h5,h6]
theorem zrk (l d c:Int):zbf [gD l d c]=some (iD (zmn l d c)):=by
  rw [zpq]
  unfold ziW zmn
  rw [zfC]
  cases h:zdF l d c
  · simp [zcg]
  · have:=zfP.1 h
    simp [zcg]
    exact zao (by omega) (by omega)
theorem zy2 (l d c:Int):zaS [gD l d c]=some (iD (zkh l d c)):=by
  rw [zq5]
  unfold zks zkh
  rw [zfC,zrk]
  unfold zmn
  cases h:zdF l d c
  · simp [zcg]
  · have:=zfP.1 h
    simp [zcg]
    exact zao (by omega) (by omega)
theorem zkV (l d c:Int):zag [gD l d c]=some (.bool (zdF l d c)):=by
  rw [zjw]
  unfold zey zdF
  by_cases h5:l=5
  · subst h5
    by_cases h3:3≤d<;>by_cases h8:d≤8<;>simp [zcg,h3,h8]<;>by_cases h1:c=1<;>by_cases h2:c=2<;>simp [h1,h2]<;>omega
  · by_cases h6:l=6
    · subst h6
      by_cases h3:4≤d<;>by_cases h8:d≤8<;>simp [zcg,h3,h8]<;>by_cases h1:c=1<;>by_cases h2:c=2<;>simp [h1,h2]<;>omega
    · simp [zcg,h5,h6]
theorem zsQ (l d c:Int):zaD [gD l d c]=some (iD (zmn l d c)):=by
  rw [ziS]
  unfold zed zmn
  rw [zkV]
  cases h:zdF l d c
  · simp [zcg]
  · have:=zfP.1 h
    simp [zcg]
    exact zao (by omega) (by omega)
theorem zrl (l d c:Int):zaf [gD l d c]=some (iD (zkh l d c)):=by
  rw [zjx]
  unfold zez zkh
  rw [zkV,zsQ]
  unfold zmn
  cases h:zdF l d c
  · simp [zcg]
  · have:=zfP.1 h
    simp [zcg]
    exact zao (by omega) (by omega)
theorem zx2 (a n:Int) (h:1≤n) (h9:n < 1000000000):zab [.int .i64 a,.int .i64 n]=some (iD (a % n)):=by
  rw [zjv]
  unfold zex
  have hm:=zyV a n h
  have hlt:=Int.lt_tmod_of_pos a (show 0 < n by omega)
  have h1:¬ n < 1:=by omega
  have h0:n≠0:=by omega
  rcases hm with ⟨k1,k2⟩ | ⟨k1,k2⟩
  · simp [zcg,h1,h0,Int.not_lt.2 k1,k2]
  · simp [zcg,h1,h0,k1,k2]
    exact zao (by omega) (by omega)
theorem zvN (g:Geo):zaS [gD g.l g.d g.c]=some (iD g.width):=zy2 ..
theorem zsR (g:Geo):zaf [gD g.l g.d g.c]=some (iD g.width):=zrl ..
section
variable (a b c x y z k:Int)
end
section
variable (g:Geo) (a row k:Int)
theorem zx3:zbS [g.D,.int .i64 row]=some (.bool (zcF g row)):=by
  unfold Geo.D
  rw [zt2]
  unfold zou
  rw [zfC]
  unfold zcF Geo.ok
  cases zdF g.l g.d g.c<;>simp [zcg]<;>(by_cases h:0≤row<;>simp [h])
theorem zuk:zaq [g.D,.int .i64 row]=some (.bool (zcF g row)):=by
  unfold Geo.D
  rw [zkI]
  unfold ze2
  rw [zkV]
  unfold zcF Geo.ok
  cases zdF g.l g.d g.c<;>simp [zcg]<;>(by_cases h:0≤row<;>simp [h])
theorem zvO:zaJ [g.D,.int .i64 row]=some (.tup [iD (parP g row).1,iD (parP g row).2]):=by
  have hi:=zx3 g row
  unfold Geo.D at*
  rw [zov]
  unfold zhF
  rw [hi]
  unfold parP
  cases h:zcF g row
  · simp [zcg]
  · obtain ⟨hk,h0,h1⟩:=zbM.1 h
    have hd:=ok_d hk
    have hv:=zFI hk h0
    have hp:=zlW hk row
    have w1:IntKind.i64.wrap (g.d - 1)=g.d - 1:=zao (by omega) (by omega)
    have w2:IntKind.i64.wrap (row.tdiv g.c)=row / g.c:=by rw [zDg hk h0]; exact zao (by omega) (by omega)
    have w3:IntKind.i64.wrap (g.d - 1 - (row / g.c).tmod g.d)=parA g row:=by rw [zsH hv.1]; exact zao (by unfold parA at hp; omega) (by unfold parA at hp; omega)
    have w4:IntKind.i64.wrap (parA g row+1)=parA g row+1:=zao (by omega) (by omega)
    have t4:(parA g row+1).tmod g.d=(parA g row+1) % g.d:=zsH (by omega)
    by_cases h5:g.l=5
    · simp [zcg,show g.c≠0 by omega,show g.d≠0 by omega,w1,w2,w3,h5]
    · simp [zcg,show g.c≠0 by omega,show g.d≠0 by omega,w1,w2,w3,h5,w4,t4]
theorem zAS:zaA [g.D,.int .i64 row]=some (.tup [iD (parP g row).1,iD (parP g row).2]):=by
  have hi:=zuk g row
  unfold Geo.D at*
  rw [zi9]
  unfold zek
  rw [hi]
  unfold parP
  cases h:zcF g row
  · simp [zcg]
  · obtain ⟨hk,h0,h1⟩:=zbM.1 h
    have hd:=ok_d hk
    have hv:=zFI hk h0
    have hp:=zlW hk row
    have w1:IntKind.i64.wrap (g.d - 1)=g.d - 1:=zao (by omega) (by omega)
    have w2:IntKind.i64.wrap (row.tdiv g.c)=row / g.c:=by rw [zDg hk h0]; exact zao (by omega) (by omega)
    have w3:IntKind.i64.wrap (g.d - 1 - (row / g.c).tmod g.d)=parA g row:=by rw [zsH hv.1]; exact zao (by unfold parA at hp; omega) (by unfold parA at hp; omega)
    have w4:IntKind.i64.wrap (parA g row+1)=parA g row+1:=zao (by omega) (by omega)
    have t4:(parA g row+1).tmod g.d=(parA g row+1) % g.d:=zsH (by omega)
    by_cases h5:g.l=5
    · simp [zcg,show g.c≠0 by omega,show g.d≠0 by omega,w1,w2,w3,h5]
    · simp [zcg,show g.c≠0 by omega,show g.d≠0 by omega,w1,w2,w3,h5,w4,t4]
theorem zy3:zbm [g.D,.int .i64 row,.int .i64 k]=some (iD (zdG g row k)):=by
  have hi:=zx3 g row
  have hp:=zvO g row
  unfold Geo.D at*
  rw [zq6]
  unfold zku
  rw [hi,hp,zvN,zrk]
  unfold zdG
  cases h:zcF g row
  · simp [zcg]
  · obtain ⟨hk,h0,h1⟩:=zbM.1 h
    have hd:=ok_d hk
    have hw:=zdd hk
    have hb:=zvy hk
    have hl:=zeL.1 hk
    have hpa:=zlW hk row
    by_cases k0:k < 0
    · simp [zcg,k0,show ¬ 0≤k by omega]
    · by_cases k1:g.width≤k
      · simp [zcg,k0,k1,show ¬ k < g.width by omega]
      · have w1:IntKind.i64.wrap (parA g row+(g.l - 4))=parA g row+(g.l - 4):=zao (by omega) (by omega)
        have w2:IntKind.i64.wrap (parA g row+(g.l - 4)+k)=parA g row+(g.l - 4)+k:=zao (by omega) (by omega)
        have t2:(parA g row+(g.l - 4)+k).tmod g.d=(parA g row+(g.l - 4)+k) % g.d:=zsH (by omega)
        have hp1:(parP g row).1=parA g row:=by unfold parP; simp [h]
        simp [zcg,k0,k1,show 0≤k by omega,show k < g.width by omega,hb,hp1,w1,w2,t2,show g.d≠0 by omega]
theorem zCt:zbh [g.D,.int .i64 row,.int .i64 k]=some (iD (zdG g row k)):=by
  have hi:=zuk g row
  have hp:=zAS g row
  unfold Geo.D at*
  rw [zkK]
  unfold ze4
  rw [hi,hp,zsR,zsQ]
  unfold zdG
  cases h:zcF g row
  · simp [zcg]
  · obtain ⟨hk,h0,h1⟩:=zbM.1 h
    have hd:=ok_d hk
    have hw:=zdd hk
    have hb:=zvy hk
    have hl:=zeL.1 hk
    have hpa:=zlW hk row
    by_cases k0:k < 0
    · simp [zcg,k0,show ¬ 0≤k by omega]
    · by_cases k1:g.width≤k
      · simp [zcg,k0,k1,show ¬ k < g.width by omega]
      · have w1:IntKind.i64.wrap (parA g row+(g.l - 4))=parA g row+(g.l - 4):=zao (by omega) (by omega)
        have w2:IntKind.i64.wrap (parA g row+(g.l - 4)+k)=parA g row+(g.l - 4)+k:=zao (by omega) (by omega)
        have t2:(parA g row+(g.l - 4)+k).tmod g.d=(parA g row+(g.l - 4)+k) % g.d:=zsH (by omega)
        have hp1:(parP g row).1=parA g row:=by unfold parP; simp [h]
        simp [zcg,k0,k1,show 0≤k by omega,show k < g.width by omega,hb,hp1,w1,w2,t2,show g.d≠0 by omega]
end
section
variable (l d c a row k:Int)
end
section
variable (g:Geo) (row k:Int)
end
section
variable (l d c row k:Int)
end
end Wf

namespace Wf
open Go Go.RowKit Go.Proofs
set_option linter.unusedSimpArgs false
set_option linter.unusedVariables false
theorem zEp (l d c x y z:Int):zbe [gD l d c,gD x y z]=some (.bool (canG l d c x y z)):=by
  rw [zlt]
  unfold zfq canG
  rw [zkV,zkV,zrl,zrl]
  cases h:zdF l d c<;>cases k:zdF x y z<;>simp [zcg]
  by_cases h1:l=x<;>by_cases h2:d=y<;>by_cases h3:c=z<;>by_cases h4:d≤y<;>by_cases h5:l≤x<;>simp [h1,h2,h3,h4,h5]<;>omega
theorem zAT (m n:Int):∃ x y:Geo,zbv [.int .i64 m,.int .i64 n]=some (.tup [x.D,y.D])∧x.can y=true∧x.d≤5∧y.d≤8:=by
  rw [zlv]
  unfold zfr
  have e2:IntKind.i64.wrap (m.tdiv 2)=qn m 2:=rfl
  have e6:IntKind.i64.wrap (m.tdiv 6)=qn m 6:=rfl
  have e3:IntKind.i64.wrap (n.tdiv 3)=qn n 3:=rfl
  have e9:IntKind.i64.wrap (n.tdiv 9)=qn n 9:=rfl
  have w3:IntKind.i64.wrap (3+m % 2)=3+m % 2:=zao (by omega) (by omega)
  have w4:IntKind.i64.wrap (4+m % 2)=4+m % 2:=zao (by omega) (by omega)
  have w31:IntKind.i64.wrap (3+m % 2+1)=3+m % 2+1:=zao (by omega) (by omega)
  have w3n:IntKind.i64.wrap (3+m % 2+n % 3)=3+m % 2+n % 3:=zao (by omega) (by omega)
  have w4n:IntKind.i64.wrap (4+m % 2+n % 3)=4+m % 2+n % 3:=zao (by omega) (by omega)
  have w3n1:IntKind.i64.wrap (3+m % 2+n % 3+1)=3+m % 2+n % 3+1:=zao (by omega) (by omega)
  have w4n1:IntKind.i64.wrap (4+m % 2+n % 3+1)=4+m % 2+n % 3+1:=zao (by omega) (by omega)
  have wmx:IntKind.i64.wrap (max (3+m % 2+n % 3) (3+m % 2+1)+1)=max (3+m % 2+n % 3) (3+m % 2+1)+1:=zao (by omega) (by omega)
  have h0:0≤qn m 2 % 3:=by omega
  have h3:qn m 2 % 3 < 3:=by omega
  have k0:0≤qn n 3 % 3:=by omega
  have k3:qn n 3 % 3 < 3:=by omega
  simp only [zx2 _ _ (show (1:Int)≤2 by decide) (show (2:Int) < 1000000000 by decide),zx2 _ _ (show (1:Int)≤3 by decide) (show (3:Int) < 1000000000 by decide),zx2 _ _ (show (1:Int)≤4 by decide) (show (4:Int) < 1000000000 by decide),
    zac,iD,zbj,zaO,e2,e6,e3,e9,w3,w4,w31,w3n,w4n,w3n1,w4n1,wmx,zaa h0,zaa k0,zx0 _ h0 h3,zx0 _ k0 k3,zEp,zch]
  obtain ⟨a,ha⟩:∃ a,(if qn m 2 % 3=0 then (1:Int) else if qn m 2 % 3=1 then 2 else 4)=a:=⟨_,rfl⟩
  obtain ⟨b,hb⟩:∃ a,(if qn n 3 % 3=0 then (1:Int) else if qn n 3 % 3=1 then 2 else 4)=a:=⟨_,rfl⟩
  have ha':a=1∨a=2∨a=4:=by rw [←ha]; (repeat' split)<;>simp
  have hb':b=1∨b=2∨b=4:=by rw [←hb]; (repeat' split)<;>simp
  rw [ha,hb]
  have hm:m % 2=0∨m % 2=1:=by omega
  have hn:n % 3=0∨n % 3=1∨n % 3=2:=by omega
  clear e2 e6 e3 e9 w3 w4 w31 w3n w4n w3n1 w4n1 wmx h0 h3 k0 k3 ha hb
  generalize m % 2=p at*
  generalize n % 3=q at*
  generalize qn m 6 % 4=s1 at*
  generalize qn n 9 % 2=s2 at*
  have key:∀ (l l' d d':Int),3≤d→d≤5→d≤d'→d'≤7→(l=5∨l=6∧4≤d)→(l'=l∨l=5∧l'=6∧d < d')→
      ∃ x y:Geo,brK (!canG l d a l' d' b) (some (D.tup [gD l d a,gD l' (d'+1) b])) (some (D.tup [gD l d a,gD l' d' b]))=some (.tup [x.D,y.D])∧x.can y=true∧x.d≤5∧y.d≤8:=by
    intro l l' d d' h1 h2 h3 h4 h5 h6
    have v1:zdF l d a=true:=by rw [zfP]; omega
    have v2:zdF l' d' b=true:=by rw [zfP]; omega
    have v3:zdF l' (d'+1) b=true:=by rw [zfP]; omega
    cases hc:canG l d a l' d' b
    · refine ⟨⟨l,d,a⟩,⟨l',d'+1,b⟩,rfl,zqW.2 ⟨v1,v3,?_,?_,?_,?_⟩,h2,by dsimp only; omega⟩
      · simp only [ne_eq,Geo.mk.injEq]; omega
      · dsimp only; omega
      · dsimp only; omega
      · simp only [zkh,v1,v3,if_true]; omega
    · exact ⟨⟨l,d,a⟩,⟨l',d',b⟩,rfl,hc,h2,by dsimp only; omega⟩
  by_cases q1:s1=3
  · rw [show (s1 == 3)=true from by simp [q1],za0]
    have:=key 6 6 (4+p) (4+p+q) (by omega) (by omega) (by omega) (by omega) (by omega) (by omega)
    exact this
  · rw [show (s1 == 3)=false from by simpa using q1,zas]
    by_cases q2:s2=1
    · rw [show (s2 == 1)=true from by simp [q2],za0]
      have:=key 5 6 (3+p) (max (3+p+q) (3+p+1)) (by omega) (by omega) (by omega) (by omega) (by omega) (by omega)
      exact this
    · rw [show (s2 == 1)=false from by simpa using q2,zas]
      have:=key 5 5 (3+p) (3+p+q) (by omega) (by omega) (by omega) (by omega) (by omega) (by omega)
      exact this
end Wf

namespace Wf
open Go Go.RowKit Go.Proofs
set_option linter.unusedSimpArgs false
set_option linter.unusedVariables false
theorem zmQ (a n:Int) (h:1≤n) (h9:n < 1000000000):zab [.int .i64 a,.int .i64 n]=some (.int .i64 (a % n)):=zx2 a n h h9
theorem zAU (t t':Tag) (l m:List Int) (hl:l.length < 1000000000):zaP [.sl t (uL l),.sl t' (uL m)]=some (.bool (decide (l=m))):=by
  rw [zhM,zcX,zcX]
  unfold zdC
  by_cases hlen:l.length=m.length
  · simp only [zdE,hlen,bne_self_eq_false,zas]
    refine zlc (fun a=>(m.length:Int).toNat - a.1.2.2.1.toNat) (fun _=>some (D.bool (decide (l=m))))
      (fun a=>∃ k:Nat,k≤m.length∧l.take k=m.take k∧a=((uL l,uL m,(k:Int),PUnit.unit),PUnit.unit)) ?_ ⟨0,by omega,by simp,rfl⟩ (by simp; omega)
    rintro again _ ⟨k,hk,he,rfl⟩ hag
    dsimp only
    rw [zdE,hlen]
    by_cases hkm:k < m.length
    · have h1:l[k]? =some l[k]:=List.getElem?_eq_getElem (by omega)
      have h2:m[k]? =some m[k]:=List.getElem?_eq_getElem hkm
      have hd:decide ((k:Int) < (m.length:Int))=true:=by simp; omega
      rw [hd,za0,zaa (by omega),zaj (by simpa using zji h1),zbj,zaa (by omega),zaj (by simpa using zji h2),zbj]
      by_cases hx:l[k]=m[k]
      · have hb:(l[k] != m[k])=false:=by simp [hx]
        rw [hb,zas,zaO,zao (by omega) (by omega)]
        exact hag _ ⟨k+1,by omega,by rw [List.take_add_one,List.take_add_one,he,h1,h2,hx],rfl⟩ (by simp; omega)
      · have hb:(l[k] != m[k])=true:=by simp [hx]
        rw [hb,za0]
        congr 2
        symm
        simp
        intro e
        subst e
        exact hx rfl
    · have hd:decide ((k:Int) < (m.length:Int))=false:=by simp; omega
      rw [hd,zas]
      have:l=m:=by
        have e1:l.take k=l:=List.take_of_length_le (by omega)
        have e2:m.take k=m:=List.take_of_length_le (by omega)
        rw [←e1,←e2,he]
      simp [this]
  · have hb:((l.length:Int) != (m.length:Int))=true:=by simp; omega
    simp only [zdE,hb,za0]
    congr 2
    symm
    simp
    intro e; subst e; exact hlen rfl
theorem zdz {R:Type} (a:Int) {b:List Int} (h:b.length=32) (f:LfT [.int .i64,.arr 32]→Option R):zaw [.int .i64,.arr 32] (.int .i64 a::uL b) f=f (a,uL b,()):=by
  have e1:(uL b).take 32=uL b:=List.take_of_length_le (by simp [h])
  have e2:(uL b).drop 32=[]:=List.drop_of_length_le (by simp [h])
  simp [zaw,zdv,Lf.get,h,e1,e2]
theorem zoO {R:Type} {b:List Int} (h:b.length=32) (f:LfT [.arr 32]→Option R):zaw [.arr 32] (uL b) f=f (uL b,()):=by
  have e1:(uL b).take 32=uL b:=List.take_of_length_le (by simp [h])
  have e2:(uL b).drop 32=[]:=List.drop_of_length_le (by simp [h])
  simp [zaw,zdv,Lf.get,h,e1,e2]
theorem zFJ {T:Tb} {i:Nat} {s:DS} (h:T[i]? =some s.cells) (hs:s.Ok) (a:Int):zaV [.h kD i 0,.int .i64 a] [T]=some (Ans.mk (.int .i64 (s.may a)) [] []):=by
  rw [znv]
  unfold zgV DS.may
  rw [zaj h,zaj (zno hs.len),zch]
  cases hf:s.failed
  · by_cases h0:a < 0
    · simp [zcg,h0]
    · by_cases h1:52≤a
      · simp [zcg,h0,h1]
      · simp [zcg,h0,h1]
  · simp [zcg]
theorem zx4 {T:Tb} {i:Nat} {s:DS} (h:T[i]? =some s.cells) (hs:s.Ok):zaM [.h kD i 0] [T]=some (Ans.mk (.bool s.failed) [] []):=by
  rw [zko]
  unfold zeW
  rw [zaj h,zaj (zno hs.len),zch]
theorem zrm {b:List Int} (h:b.length≤4294967296) (tg:Tag):zam [.sl tg (uL b)]=some (.sl .own (uL b)):=by
  cases b with
  | nil=>exact zgv tg
  | cons n b=>
    show zam [.sl tg (.int .u8 n::uL b)]=some (.sl .own (.int .u8 n::uL b))
    rw [zgW,zcX]
    unfold zdi
    have h1:(D.lent (.int .u8 n)::uL b)=uL (n::b):=by simp [uL]
    rw [h1]
    simp only [zdE,zCb,zgP,zaa,h]
    simp [uL]
theorem zDi (w:Int×List Int):(wD w).free=true:=by
  simp only [wD,D.free,D.freeL,ztR,Bool.and_self]
theorem zDj (w:Int×List Int):(wD w).lent=wD w:=by
  simp only [wD,D.lent,D.lentL,zcX]
theorem zAV (p:List (Int×List Int)):D.lentL (p.map wD)=p.map wD:=by
  induction p with
  | nil=>rfl
  | cons w p ih=>simp [ih,zDj]
theorem zEq {p:List (Int×List Int)} (h:∀ w∈p,Sec w.2):zeb 33 (p.map wD)=true:=by
  simp only [zeb,List.all_map,List.all_eq_true]
  intro w hw
  have:=(h w hw).len
  simp [wD,D.width,D.isAgg,D.cell,this]
theorem zAW {p:List (Int×List Int)} (hp:∀ w∈p,Sec w.2) (h:p.length≤4294967296) (tg:Tag):zad [.sl tg (p.map wD)]=some (.sl .own (p.map wD)):=by
  cases p with
  | nil=>exact zdL tg
  | cons w p=>
    have hok:=zEq hp
    rw [List.map_cons] at hok ⊢
    rw [zdU,zAV,zDj]
    unfold zb7
    have hf:(wD w::p.map wD).all D.free=true:=by
      rw [←List.map_cons (f:=wD),List.all_map,List.all_eq_true]; intro w _; exact zDi w
    have hl:(wD w::p.map wD).length≤4294967296:=by simpa using h
    simp only [zaa,hl,hok,hf]
theorem zAX {p:List (Int×List Int)} {k:Nat} {w:Int×List Int} (h:p[k]? =some w):(p.map wD)[k]? =some (.agg (.int .i64 w.1::uL w.2)):=by simp [h,wD]
theorem zrn (l:List D):D.width (.agg l)=l.length:=rfl
theorem zFK {T:Tb} {i:Nat} {s:DS} (h:T[i]? =some s.cells) (hs:s.Ok) (hn:s.pend.length≤1000000) (a:Int):
    zbG [.h kD i 0,.int .i64 a] [T]=some (Ans.mk (.tup [.sl .own (uL (s.read a).1),.int .i64 (s.read a).2]) [] []):=by
  rw [zmx]
  unfold zf4 DS.read
  rw [zFJ h hs a,zac,zbP,zbP,zbj]
  by_cases hm:s.may a=0
  · rw [hm]
    have hb:((0:Int) != 0)=false:=rfl
    rw [hb,zas,if_neg (by simp)]
    have ha:0≤a∧a < 52:=by
      unfold DS.may at hm
      split at hm
      · omega
      · split at hm<;>omega
    have hp:=zmj (s:=s) hs.len
    have hbase:=zwG (s:=s) hs.len (a:=a.toNat) (by omega)
    have hsec:=zxS hs (a:=a.toNat) (by omega)
    rw [zaa ha.1,zaa (by omega),zaj h,zaa (by rw [zjj hs.len]; omega),Nat.zero_add,hbase]
    rw [zaa (ztQ _),zaa (by simp [hsec.len]),zaa (by simp [hsec.len]),zaj h,zaj hp,zbI,zaj h,zaj hp,zbI,zaa (by simp)]
    rw [zoO hsec.len,List.length_map]
    refine zcM (R:=Ans) (α:=(Int×(List D×PUnit)×(Nat×Nat×Nat)×Int×Int×PUnit)×List (List D)×PUnit)
      (fun k=>((a,(uL (look (s.pend.take k) a (s.base a.toNat)),PUnit.unit),(i,0,s.pend.length),(s.pend.length:Int),(k:Int),PUnit.unit),T,PUnit.unit)) s.pend.length (by omega) ?_ ?_
    · intro again k hk
      dsimp only
      obtain ⟨w,hw⟩:∃ w,s.pend[k]? =some w:=⟨_,List.getElem?_eq_getElem hk⟩
      have hws:=hs.ps w (List.mem_of_getElem? hw)
      have hd:decide ((k:Int) < (s.pend.length:Int))=true:=by simp; omega
      have hlk:(look (s.pend.take k) a (s.base a.toNat)).length=32:=zxT (fun w hw=>(hs.ps w (List.mem_of_mem_take hw)).len) hsec.len
      rw [hd,za0,zaj h,zaj hp,zbI,zaa (by omega),zaa (by simpa using hk),zaj h,zaj hp,zbI,zaj (by simpa using zAX hw),zka,zdz _ hws.len]
      dsimp only
      simp only [List.append_nil,List.cons_append,List.nil_append,zrn,List.length_cons,zdE,hws.len,hlk,zaa]
      by_cases hwa:w.1=a
      · have hb:(w.1 == a)=true:=by simp [hwa]
        rw [hb,za0,List.drop_succ_cons,List.drop_zero]
        have et:(uL w.2).take 32=uL w.2:=List.take_of_length_le (by simp [hws.len])
        rw [et,zaa (by omega),zaa (by simp [hws.len]),zaa (by simp [hws.len]),zaa (by omega),zaO,zao (by omega) (by omega),zC3 (by simp [hws.len])]
        have e3:(uL (look (s.pend.take k) a (s.base a.toNat))).take 0++uL w.2++(uL (look (s.pend.take k) a (s.base a.toNat))).drop (0+32)=uL w.2:=by
          rw [List.drop_of_length_le (by simp [hlk])]; simp
        rw [e3,zoO hws.len,zvu hw,if_pos hwa]
        rfl
      · have hb:(w.1 == a)=false:=by simp [hwa]
        rw [hb,zas,zaO,zao (by omega) (by omega),zoO hlk,zvu hw,if_neg hwa]
        rfl
    · intro again
      have hlk:=zxT (p:=s.pend) (a:=a) (fun w hw=>(hs.ps w hw).len) hsec.len
      have hd:decide ((s.pend.length:Int) < (s.pend.length:Int))=false:=by simp
      dsimp only
      rw [hd,zas,List.take_length]
      simp only [List.append_nil,zdE,hlk,Nat.le_refl,zaa]
      have ec:cut 0 32 (uL (look s.pend a (s.base a.toNat)))=uL (look s.pend a (s.base a.toNat)):=by
        have:=zdg (uL (look s.pend a (s.base a.toNat)))
        rw [zdE,hlk] at this; exact this
      rw [ec,zrm (by rw [hlk]; omega),zac,zbI]
      simp
      rfl
  · have hb:(s.may a != 0)=true:=by simp [hm]
    rw [hb,za0,if_pos hm]
    rfl
theorem zEr {T:Tb} {i:Nat} {s:DS} (h:T[i]? =some s.cells) (hs:s.Ok) (a:Int) (tg:Tag) (b:List Int):
    zaW [.h kD i 0,.int .i64 a,.sl tg (uL b)] [T]=some (Ans.mk (.tup [wD (putR s a b).1,.int .i64 (putR s a b).2]) [] []):=by
  rw [znJ,zcX]
  unfold zg3 putR
  rw [zFJ h hs a,zac,zbP,zbP,zbj]
  by_cases hm:s.may a=0
  · rw [hm]
    have hb:((0:Int) != 0)=false:=rfl
    rw [hb,zas,if_neg (by simp)]
    by_cases hl:b.length=32
    · have hb2:(((uL b).length:Int) != 32)=false:=by simp [hl]
      rw [hb2,zas,if_neg (by simp [hl]),zaa (zxR _),zaa (by simp [hl])]
      have et:(D.int .i64 a::uL b).take 33=.int .i64 a::uL b:=List.take_of_length_le (by simp [hl])
      simp only [List.append_nil,List.cons_append,List.nil_append,List.length_cons,zdE,hl,List.drop_zero,et]
      rw [zaa (by omega),zdz _ hl]
      dsimp only
      simp only [zdE,hl,Nat.le_refl,zaa,List.take_of_length_le,et]
      rw [zdz _ hl]
      dsimp only
      rw [zaa (by simp only [D.free,D.freeL,ztR,Bool.and_self])]
      rfl
    · have hb2:(((uL b).length:Int) != 32)=true:=by simp; omega
      rw [hb2,za0,if_pos hl]
      rfl
  · have hb:(s.may a != 0)=true:=by simp [hm]
    rw [hb,za0,if_pos hm]
    rfl
theorem zEs (w:Int×List Int) (hw:Sec w.2) (c:Int):zaF [wD w,.at_ (.int .i64 c)]=some (.bool (w.1 == c)):=by
  unfold wD
  rw [zjb]
  unfold zel
  rw [show D.lentL (.int .i64 w.1::uL w.2)=.int .i64 w.1::uL w.2 by simp [zcX],zdz _ hw.len]
theorem zwY {p:List (Int×List Int)} (hp:∀ w∈p,Sec w.2) {c:Int} (hc:∀ w∈p,w.1≠c) (hn:p.length≤1000000) (tg:Tag):
    zan [.sl tg (p.map wD),.fn ID.disk_Disk_Damage_1 [] [.at_ (.int .i64 c)]]=some (.int .i64 (-1)):=by
  rw [zcP,zAV]
  unfold zbE
  rw [List.length_map]
  refine zcM (R:=D) (α:=(List D×Int×Int×Int×PUnit)×PUnit) (fun k=>((p.map wD,c,(p.length:Int),(k:Int),PUnit.unit),PUnit.unit)) p.length (by omega) ?_ ?_
  · intro again k hk
    dsimp only
    obtain ⟨w,hw⟩:∃ w,p[k]? =some w:=⟨_,List.getElem?_eq_getElem hk⟩
    have hws:=hp w (List.mem_of_getElem? hw)
    have hd:decide ((k:Int) < (p.length:Int))=true:=by simp; omega
    rw [hd,za0,zaa (by omega),zaj (by simpa using zAX hw),zka,zdz _ hws.len]
    dsimp only
    simp only [List.append_nil,List.cons_append,List.nil_append,zrn,List.length_cons,zdE,hws.len,zaa]
    rw [zdz _ hws.len]
    dsimp only
    rw [zdE,hws.len,zaa (by omega)]
    have:=zEs w hws c
    unfold wD at this
    rw [this,zac,zch]
    have hb:(w.1 == c)=false:=by simp [hc w (List.mem_of_getElem? hw)]
    rw [hb,zas,zaO,zao (by omega) (by omega)]
    rfl
  · intro again
    have hd:decide ((p.length:Int) < (p.length:Int))=false:=by simp
    dsimp only
    rw [hd,zas]
theorem zvP {p:List (Int×List Int)} (hp:∀ w∈p,Sec w.2) {c:Int} (hc:∀ w∈p,w.1≠c) (hn:p.length≤1000000):
    zal [.sl .own (p.map wD),.fn ID.disk_Disk_Damage_1 [] [.at_ (.int .i64 c)]] []=some (Ans.mk (.sl .own (p.map wD)) [] []):=by
  rw [zcK]
  unfold zbu
  rw [zaa (by omega),zdg,zwY hp hc hn,zac,zbj]
  have hb:((-1:Int) == -1)=true:=rfl
  have hf:(p.map wD).all D.free=true:=by rw [List.all_map,List.all_eq_true]; intro w _; exact zDi w
  rw [hb,za0,zaa (by rfl),zaa hf]
theorem znV (p:List (Int×List Int)):zdf (p.map wD)=true:=by
  simp only [zdf,List.all_map,List.all_eq_true]
  intro w _
  simp [wD,D.flatEl,D.flat,uL]
theorem zul {p:List (Int×List Int)} (h:∀ w∈p,Sec w.2):zfJ 33 (p.map wD)=true:=by
  simp only [zfJ,List.all_map,List.all_eq_true]
  intro w hw
  have:=(h w hw).len
  simp [wD,D.width,this]
theorem zCu {T:Tb} {i:Nat} {s:DS} (h:T[i]? =some s.cells) (hs:s.Ok) (hn:s.pend.length≤1000000) {a:Int} (hc:∀ w∈s.pend,w.1≠a) (tg:Tag) (b:List Int):
    zbq [.h kD i 0,.int .i64 a,.sl tg (uL b)] [T]=some (Ans.mk (.int .i64 (s.damage a b).1) [] [T.set i (s.damage a b).2.cells]):=by
  rw [zkQ,zcX]
  unfold ze7 DS.damage
  have hpl:=zxU s a b
  rw [zEr h hs,zac,zbP,zbP,zgO,zeK,zeK,zfM]
  dsimp only
  unfold wD
  rw [zka,zdz _ hpl,zbj]
  dsimp only
  rw [zaa (by simp [hpl])]
  by_cases he:(putR s a b).2=0
  · obtain ⟨h1,h2,h3,h4,h5⟩:=ztS he
    have hb:((putR s a b).2 != 0)=false:=by simp [he]
    rw [hb,zas,if_pos he,h3]
    try rw [he]
    dsimp only
    have et:(uL b).take 32=uL b:=List.take_of_length_le (by simp [h2])
    simp only [List.append_nil,List.cons_append,List.nil_append,List.length_cons,zdE,h2,List.drop_succ_cons,List.drop_zero,et,ztQ,Nat.zero_add]
    have hlen:=hs.len
    have hset:zaZ T i (a.toNat*32) (uL b)=T.set i (s.setSec a.toNat b).cells:=by
      rw [zdQ h,zdE,h2,zDd hlen (by omega)]
    have hlen2:=zsC (s:=s) hlen (a:=a.toNat) (by omega) h2
    have hU:=zlb h (s.setSec a.toNat b).cells
    have hp:=zmj hlen2
    have hpe:(s.setSec a.toNat b).pend=s.pend:=rfl
    rw [zaa (by first | trivial | omega),zaa (by first | trivial | omega),zaa h4,zaa (by first | trivial | omega),zaj h,zaa (by rw [zjj hlen]; omega),zaa (by first | trivial | omega),zaa (by first | trivial | rfl)]
    rw [zwG hlen (by first | trivial | omega),zaa (ztQ _),zoe,hset,zaj hU,zaj hp,zbI,zaj hU,zaj hp,zbI,zaa (by first | trivial | omega),zdg,hpe]
    rw [zAW hs.ps (by first | trivial | omega),zac,zbI,zaa (by first | trivial | rfl),zaa (znV _),zvP hs.ps hc hn,zac,zbP,zbP,zbI,zaa (by first | trivial | omega),zaj hU,zaa (by rw [zjj hlen2]; omega),
      zaa (by first | trivial | rfl),zaa (znV _),zaa (zul hs.ps),zoe]
    have h6:zaZ (T.set i (s.setSec a.toNat b).cells) i 1664 [.sl .own (s.pend.map wD)]=T.set i (s.setSec a.toNat b).cells:=by
      rw [zdQ hU]
      have:=zoh (s:=s.setSec a.toNat b) hlen2 s.pend
      rw [show (1664:Nat)+[D.sl .own (s.pend.map wD)].length=1665 from rfl,this,List.set_set]
      rfl
    rw [h6,show s.mayW a b=0 from he]
  · have hb:((putR s a b).2 != 0)=true:=by simp [he]
    rw [hb,za0,if_neg he]
    have:T.set i s.cells=T:=by
      apply List.ext_getElem?
      intro j
      rw [List.getElem?_set]
      split
      · rename_i e; subst e; rw [h]; simp [zaU h]
      · rfl
    rw [this]
theorem zCv (T:Tb):zoo T=some (Ans.mk (.h kD T.length 0) [] [T++[List.replicate 1664 (D.int .u8 0)++[.sl .own [],.bool false]]]):=by kernel_rfl
theorem zFL (T:Tb):zbR [] [T]=some (Ans.mk (.h kD T.length 0) [] [T++[DS.new.cells]]):=by
  rw [ztY]
  have e:DS.new.cells=List.replicate 1664 (D.int .u8 0)++[.sl .own [],.bool false]:=by
    show uL (List.replicate 1664 0)++[.sl .own [],.bool false]=_
    rw [←zqO]
  rw [e]
  exact zCv T
theorem zwZ {R:Type} {n:Nat} {b:List Int} (h:b.length=n) (f:LfT [.arr n]→Option R):zaw [.arr n] (uL b) f=f (uL b,()):=by
  subst h
  have e1:(uL b).take b.length=uL b:=List.take_of_length_le (by simp)
  have e2:(uL b).drop b.length=[]:=List.drop_of_length_le (by simp)
  simp [zaw,zdv,Lf.get,e1,e2]
theorem zsS {n:Nat} {b:List Int} (h:b.length=n):(uL b).take n=uL b:=List.take_of_length_le (by simp [h])
theorem zCw {a:Int} {b:List Int} (h:b.length=32):zeb 33 [D.agg (D.int .i64 a::uL b)]=true:=by simp [zeb,D.width,D.isAgg,D.cell,h]
theorem zAY {a:Int} {b:List Int} (h:b.length=32):zfJ 33 [D.agg (D.int .i64 a::uL b)]=true:=by simp [zfJ,D.width,h]
theorem zy4 (a:Int) (b:List Int):zdf [D.agg (D.int .i64 a::uL b)]=true:=by
  have h:(uL b).all D.flat=true:=zEh b
  show ((D.agg (D.int .i64 a::uL b)).flatEl && true)=true
  show ((true && (uL b).all D.flat) && true)=true
  rw [h]; rfl
section
variable {T:Tb} {i:Nat} {s:DS}
theorem zCx (h:T[i]? =some s.cells) (hl:s.l.length=1664) (p:List (Int×List Int)) (l:List D) (e:l=p.map wD):zaZ (setT T i 1664 .undef) i 1664 [.sl .own l]=T.set i ({ s with pend:=p }:DS).cells:=by
  subst e
  rw [ztG h (by rw [zjj hl]; omega),zoh hl]
theorem zvQ (h:T[i]? =some s.cells) (hl:s.l.length=1664) (p:List (Int×List Int)):zaZ T i 1664 [.sl .own (p.map wD)]=T.set i ({ s with pend:=p }:DS).cells:=by
  rw [zdQ h]
  exact congrArg _ (zoh hl p)
theorem zum (h:T[i]? =some s.cells) (hs:s.Ok) (hn:s.pend.length≤1000000) (a:Int) (tg:Tag) (b:List Int):
    zbo [.h kD i 0,.int .i64 a,.sl tg (uL b)] [T]=some (Ans.mk (.int .i64 (s.write a b).1) [] [T.set i (s.write a b).2.cells]):=by
  rw [zlG,zcX]
  unfold zfy DS.write
  have hpl:=zxU s a b
  by_cases he:(putR s a b).2=0
  · obtain ⟨h1,h2,h3,h4,h5⟩:=ztS he
    simp (disch:=first | omega | assumption | (simp; done) | fail) [zEr h hs,wD,zdz _ hpl,he,h3,zaj h,zaj (zmj hs.len),hpl,h2,zwZ h2,zsS h2,zCw h2,zAY h2,zAq h,zjj hs.len,znV,zy4,zul hs.ps]
    exact zCx h hs.len (s.pend++[(a,b)]) _ (by simp [wD])
  · simp (disch:=first | omega | assumption | (simp; done) | fail) [zEr h hs,wD,zdz _ hpl,he,hpl,set_same h]
theorem zoP {β:Type} {l:List β} {n:Nat} (h:l.length=n):cut 0 n l=l:=by subst h; exact zdg l
theorem zFM (l:List Int):(uL l).map D.hide=uL l:=by
  unfold uL; rw [List.map_map]; apply List.map_congr_left; intro n _; rfl
theorem zDk (l:List Int):(uL l).map D.own0=uL l:=by
  unfold uL; rw [List.map_map]; apply List.map_congr_left; intro n _; rfl
theorem zw0 (h:T[i]? =some s.cells) (hs:s.Ok) (hn:s.pend.length≤1000000):zby [.h kD i 0] [T]=some (Ans.mk (.h kD T.length 0) [] [T++[s.cells]]):=by
  rw [zlE]
  unfold zfx
  have e1:List.map D.hide (List.take 1666 (List.drop 0 s.cells))=uL s.l++[D.undef,D.bool s.failed]:=by
    rw [List.drop_zero,List.take_of_length_le (by rw [zjj hs.len]; omega)]
    unfold DS.cells
    rw [List.map_append,zFM]; rfl
  have e2:∀ (x:List D),x.length=1666→spl 0 1666 x (uL s.l++[D.undef,D.bool s.failed])=uL s.l++[D.undef,D.bool s.failed]:=by
    intro x hx; unfold spl; rw [if_pos ⟨rfl,hx.symm⟩]
  have e3:((uL s.l++[D.undef,D.bool s.failed]).set 1664 .nilp).all D.own0ok=true:=by
    rw [List.set_append_right _ _ (by simp [hs.len]),List.all_append,zpb (fun _=>rfl)]
    simp [hs.len,D.own0ok,D.flat]
  have e4:((uL s.l++[D.undef,D.bool s.failed]).map D.own0).set 1664 (.sl .own (s.pend.map wD))=s.cells:=by
    rw [List.map_append,zDk,List.set_append_right _ _ (by simp [hs.len])]
    simp [hs.len,DS.cells,D.own0]
  have e5:(uL s.l++[D.undef,D.bool s.failed]).length=1666:=by simp [hs.len]
  have e6:(List.reverse ([D.bool false,D.sl Tag.nil []]++List.replicate 1664 (D.int IntKind.u8 (0:Int)))).length=1666:=by rw [List.length_reverse,List.length_append,List.length_replicate]; rfl
  have e7:((true && decide ((1:Nat)=(1:Nat)) && List.all [(1664:Nat)] fun k=>decide (k < 1666))=true):=by decide
  rw [zaj h,e1,e2 _ e6]
  generalize (uL s.l++[D.undef,D.bool s.failed])=X at*
  simp (disch:=first | omega | assumption | (simp; done) | fail) [e3,e4,e5,e7,zoP,zaj h,zaj (zmj hs.len),zjj hs.len,zAW hs.ps,znV,zul hs.ps]
theorem zEt (h:T[i]? =some s.cells) (hs:s.Ok) (hn:s.pend.length≤1000000):zbz [.h kD i 0] [T]=some (Ans.mk (.int .i64 s.flush.1) [] [T.set i s.flush.2.cells]):=by
  rw [zlI]
  unfold zfz DS.flush
  cases hf:s.failed
  · have hlp:(s.pend.map wD).length=s.pend.length:=by simp
    simp (disch:=first | omega | assumption | (simp; done) | fail) only [zaj h,zaj (zno hs.len),zaj (zmj hs.len),hf,zch,zas,zbI,zaa,Nat.zero_add,Nat.le_refl,hlp]
    let st:Nat→(Nat×(Nat×Nat×Nat)×Int×Int×PUnit)×List (List D)×PUnit:=fun k=>((i,(i,0,s.pend.length),(s.pend.length:Int),(k:Int),PUnit.unit),T.set i (s.puts (s.pend.take k)).cells,PUnit.unit)
    have hst:st 0=((i,(i,0,s.pend.length),(s.pend.length:Int),0,PUnit.unit),T,PUnit.unit):=by
      show ((i,(i,0,s.pend.length),(s.pend.length:Int),0,PUnit.unit),T.set i (s.puts []).cells,PUnit.unit)=_
      rw [show s.puts []=s from rfl,set_same h]
    rw [←hst]
    refine zcM st s.pend.length (by omega) ?_ ?_
    · intro again k hk
      dsimp only [st]
      obtain ⟨w,hw⟩:∃ w,s.pend[k]? =some w:=⟨_,List.getElem?_eq_getElem hk⟩
      obtain ⟨hws,hw0,hw1⟩:=hs.pend w (List.mem_of_getElem? hw)
      obtain ⟨pk,pf,pp⟩:=zqR hs (s.pend.take k) fun w hw=>hs.pend w (List.mem_of_mem_take hw)
      have hU:=zlb h (s.puts (s.pend.take k)).cells
      have hpd:=zmj (s:=s.puts (s.pend.take k)) pk.len
      rw [pp] at hpd
      have hnx:zaZ (T.set i (s.puts (s.pend.take k)).cells) i (w.1.toNat*32) (uL w.2)=T.set i (s.puts (s.pend.take (k+1))).cells:=by
        rw [zdQ hU,zdE,hws.len,zDd pk.len (by omega),List.set_set,List.take_add_one,hw]
        show _=T.set i (s.puts (s.pend.take k++[w])).cells
        unfold DS.puts
        rw [List.foldl_append]; rfl
      simp (disch:=first | omega | assumption | (simp; done) | fail) [zaj hU,zaj hpd,zaj (zAX hw),zdz _ hws.len,hws.len,zsS hws.len,zjj pk.len,hk,zrn,zwG pk.len,hw0,hw1,zao,hnx]
    · intro again
      dsimp only [st]
      rw [List.take_length]
      obtain ⟨pk,pf,pp⟩:=zqR hs s.pend hs.pend
      have hU:=zlb h (s.puts s.pend).cells
      have hz:=zvQ hU pk.len []
      have hz':zaZ (T.set i (s.puts s.pend).cells) i 1664 [D.sl Tag.own []]=T.set i s.flushed.cells:=by
        have:=zvQ hU pk.len []
        rw [List.set_set] at this; exact this
      simp (disch:=first | omega | assumption | (simp; done) | fail) [zaj hU,zjj pk.len,hz']
  · simp (disch:=first | omega | assumption | (simp; done) | fail) [zaj h,zaj (zno hs.len),hf,set_same h]
theorem zAZ (h:T[i]? =some s.cells) (hs:s.Ok):zbk [.h kD i 0] [T]=some (Ans.mk (.int .i64 s.pend.length) [] []):=by
  rw [zjS]
  unfold zeG
  simp [zaj h,zaj (zmj hs.len)]
theorem zFN (h:T[i]? =some s.cells) (hs:s.Ok):zbH [.h kD i 0] [T]=some (Ans.mk (.tup []) [] [T.set i DS.dead.cells]):=by
  rw [zmJ]
  unfold zf5
  have e:List.map D.own0 (List.set (List.reverse ([D.bool false,D.sl Tag.nil []]++List.replicate 1664 (D.int IntKind.u8 (0:Int)))) 1665 (D.bool true))=DS.dead.cells:=by
    rw [List.reverse_append,List.reverse_replicate]
    show List.map D.own0 (List.set (List.replicate 1664 (D.int IntKind.u8 (0:Int))++[D.sl Tag.nil [],D.bool false]) 1665 (D.bool true))=uL (List.replicate 1664 0)++[.sl .own [],.bool true]
    rw [List.set_append_right _ _ (by rw [List.length_replicate]; omega),List.length_replicate,List.map_append,zqO,zDk]
    rfl
  have hl:DS.dead.cells.length=1666:=zjj (s:=DS.dead) (List.length_replicate ..)
  have hset:zaZ T i 0 DS.dead.cells=T.set i DS.dead.cells:=by
    rw [zdQ h,hl]
    rw [List.take_zero,List.nil_append,List.drop_of_length_le (by rw [zjj hs.len]; omega),List.append_nil]
  rw [e,hset,zaj h,zjj hs.len]
  simp
end
end Wf

namespace Wf
open Go Go.RowKit Go.Proofs
set_option linter.unusedSimpArgs false
set_option linter.unusedVariables false
section
variable {T0 T1:Tb} {b:Nat} {idx:List Nat} {B:Ben}
theorem At.ds (h:At T0 T1 b idx B) (hw:B.w≤1000000) (d:Int):(B.dk d).Ok∧(B.dk d).pend.length≤1000000:=by
  have:=zju h.ok d
  exact ⟨this.1,by have:=this.2; omega⟩
theorem zy5 (h:At T0 T1 b idx B):zau [.h kB b 0] [P0 T0 b idx B]=some (Ans.mk (.int .i64 B.n) [] []):=by
  rw [zly]
  unfold zft
  simp [zaj h.get0,bRow,h.len,Ben.n]
theorem b_is (h:At T0 T1 b idx B) (d:Int):zah [.h kB b 0,.int .i64 d] [P0 T0 b idx B]=some (Ans.mk (.bool (B.is d)) [] []):=by
  rw [zmt]
  unfold zf3 Ben.is Ben.n
  by_cases h0:0≤d
  · simp [zaj h.get0,bRow,h0,h.len]
  · simp [h0]
theorem zx5 (h:At T0 T1 b idx B) (d:Int):zaz [.h kB b 0,.int .i64 d] [P0 T0 b idx B,P1 T1 idx B]=some (Ans.mk (.bool (B.failed d)) [] []):=by
  rw [ziV]
  unfold zee Ben.failed
  cases hd:B.is d
  · simp [b_is h d,hd]
  · obtain ⟨h0,h1⟩:=zdR.1 hd
    have h1':d.toNat < idx.length:=by have:=h.len; unfold Ben.n at h1; omega
    simp (disch:=first | omega | assumption | (simp; done) | fail) [b_is h d,hd,zaj h.get0,bRow,h0,h1',zaj (h.hd hd),D.isAgg,D.width,D.cell,zx4 (h.get1 hd) (zju h.ok d).1]
theorem zvR (h:At T0 T1 b idx B) (d:Int):zav [.h kB b 0,.int .i64 d] [P0 T0 b idx B]=some (Ans.mk (.int .i64 (B.may d)) [] []):=by
  rw [zlB]
  unfold zfu Ben.may
  cases hd:B.is d
  · simp [b_is h d,hd]
  · cases hw:B.down<;>simp [b_is h d,hd,zaj h.get0,bRow,hw]
theorem zx6 (h:At T0 T1 b idx B) (hw:B.w≤1000000) (d a:Int):zax [.h kB b 0,.int .i64 d,.int .i64 a] [P0 T0 b idx B,P1 T1 idx B]=some (Ans.mk (.tup [.sl .own (uL (B.read d a).1),.int .i64 (B.read d a).2]) [] []):=by
  rw [zkq]
  unfold zeY Ben.read
  by_cases hm:B.may d=0
  · obtain ⟨hd,hdn⟩:=may0.1 hm
    obtain ⟨h0,h1⟩:=zdR.1 hd
    have h1':d.toNat < idx.length:=by have:=h.len; unfold Ben.n at h1; omega
    have hu:=zgP ((B.dk d).read a).1
    simp only [List.all_eq_true] at hu
    simp (disch:=first | omega | assumption | (simp; done) | fail) [zvR h d,hm,zaj h.get0,bRow,h0,h1',zaj (h.hd hd),D.isAgg,D.width,D.cell,zFK (h.get1 hd) (h.ds hw d).1 (h.ds hw d).2]
  · simp [zvR h d,hm]; rfl
theorem zEu (h:At T0 T1 b idx B) (tg:Tag) (live:List Bool) {d:Int} (h0:0≤d):za6 [.h kB b 0,.sl tg (live.map D.bool),.int .i64 d] [P0 T0 b idx B,P1 T1 idx B]=some (Ans.mk (.bool (B.up live d)) [] []):=by
  have hl:D.lentL (live.map D.bool)=live.map D.bool:=by
    induction live with
    | nil=>rfl
    | cons x l ih=>simp [ih]
  rw [zrF,hl]
  unfold zmu Ben.up
  by_cases h1:d < B.n
  · by_cases h2:d < live.length
    · have e:live[d.toNat]? =some (live[d.toNat]'(by omega)):=List.getElem?_eq_getElem (by omega)
      have e':(live.map D.bool)[d.toNat]? =some (.bool (live[d.toNat]'(by omega))):=by simp [e]
      cases hv:live[d.toNat]'(by omega)
      · rw [hv] at e e'
        simp [zy5 h,h1,h2,h0,zaj e',e,hv]
      · rw [hv] at e e'
        simp [zy5 h,h1,h2,h0,zaj e',e,zx5 h d,hv]
    · have e:live[d.toNat]? =none:=List.getElem?_eq_none (by omega)
      simp [zy5 h,h1,h2,e]
  · simp [zy5 h,h1]
theorem zA0 (h:At T0 T1 b idx B) (hw:B.w≤1000000):za5 [.h kB b 0] [P0 T0 b idx B]=some (Ans.mk (.bool (decide (B.left≠0))) [] [P0 T0 b idx (if B.left=0 then B.off else B.less)]):=by
  rw [zio]
  unfold zdV
  have hw0:=h.ok.w0
  have hlf:=h.ok.lf
  have hg:=h.get0
  have hset:∀ (B':Ben) (T:Tb) (cs:List D) (o:Nat) (x:D),T=P0 T0 b idx B'→cs=bRow B' idx→∀ B'':Ben,cs.take o++[x]++cs.drop (o+1)=bRow B'' idx→zaZ T b o [x]=P0 T0 b idx B'':=by
    rintro B' _ _ o x rfl rfl B'' e
    have hg':(P0 T0 b idx B')[b]? =some (bRow B' idx):=by unfold P0; rw [List.getElem?_set,if_pos rfl,if_pos h.b]
    rw [zdQ hg']
    show (P0 T0 b idx B').set b ((bRow B' idx).take o++[x]++(bRow B' idx).drop (o+1))=_
    rw [e,zFF]
  by_cases hl:B.left=0
  · have e1:=hset B _ _ 2 (.bool true) rfl rfl B.off rfl
    simp (disch:=first | omega | assumption | (simp; done) | fail) [zaj hg,bRow,hl,e1,zhy,D.flat]
  · by_cases hp:0 < B.left
    · let B1:Ben:={ B with left:=B.left - 1 }
      have e1:=hset B _ _ 1 (.int .i64 (B.left - 1)) rfl rfl B1 rfl
      have hg1:(P0 T0 b idx B1)[b]? =some (bRow B1 idx):=by unfold P0; rw [List.getElem?_set,if_pos rfl,if_pos h.b]
      have e2:=hset B1 _ _ 0 (.int .i64 (B.w+1)) rfl rfl B.less (by unfold Ben.less; rw [if_pos hp]; rfl)
      have e3:bRow B1 idx=[.int .i64 B.w,.int .i64 (B.left - 1),.bool B.down,.sl .own (idx.map hD)]:=rfl
      rw [e3] at hg1
      simp (disch:=first | omega | assumption | (simp; done) | fail) [zaj hg,zaj hg1,bRow,hl,hp,e1,e2,zhy,D.flat,zao]
    · have e1:=hset B _ _ 0 (.int .i64 (B.w+1)) rfl rfl B.less (by unfold Ben.less; rw [if_neg hp]; rfl)
      simp (disch:=first | omega | assumption | (simp; done) | fail) [zaj hg,bRow,hl,hp,e1,zhy,D.flat,zao]
theorem zA1 (h:At T0 T1 b idx B) (hw:B.w≤1000000) (d a:Int) (tg:Tag) (x:List Int):
    zaG [.h kB b 0,.int .i64 d,.int .i64 a,.sl tg (uL x)] [P0 T0 b idx B,P1 T1 idx B]=some (Ans.mk (.int .i64 (B.write d a x).1) [] [P0 T0 b idx (B.write d a x).2,P1 T1 idx (B.write d a x).2]):=by
  rw [zjC,zcX]
  unfold zeB Ben.write
  by_cases hm:B.may d=0
  · obtain ⟨hd,hdn⟩:=may0.1 hm
    obtain ⟨h0,h1⟩:=zdR.1 hd
    obtain ⟨ho,hp⟩:=h.ds hw d
    have h1':d.toNat < idx.length:=by have:=h.len; unfold Ben.n at h1; omega
    have hT:(P1 T1 idx B++[(B.dk d).cells])[(P1 T1 idx B).length]? =some (B.dk d).cells:=by simp
    have hj:(P1 T1 idx B++[(B.dk d).cells]).set (P1 T1 idx B).length ((B.dk d).write a x).2.cells=P1 T1 idx (B.junk ((B.dk d).write a x).2):=by
      rw [List.set_append_right _ _ (Nat.le_refl _),Nat.sub_self,←zEk]; rfl
    have hJ:At T0 T1 b idx (B.junk ((B.dk d).write a x).2):=h.nx (K:=0) ⟨zqS h.ok _,rfl,by simp,by simp⟩
    have hd':(B.junk ((B.dk d).write a x).2).is d=true:=hd
    have hg1:=hJ.get1 hd'
    have hset:=hJ.set1 hd' ((B.dk d).write a x).2
    have hw1:=zum (T:=P1 T1 idx (B.junk ((B.dk d).write a x).2)) (i:=ix idx d) (s:=B.dk d) hg1 ho hp a .lent x
    have hgr:∀ B':Ben,(P0 T0 b idx B')[b]? =some [.int .i64 B'.w,.int .i64 B'.left,.bool B'.down,.sl .own (idx.map hD)]:=by
      intro B'; unfold P0; rw [List.getElem?_set,if_pos rfl,if_pos h.b]; rfl
    by_cases he:(B.dk d).mayW a x=0
    · have e1:((B.dk d).write a x).1=0:=he
      have e2:((B.dk d).write a x).2=(B.dk d).add a x:=by unfold DS.write; rw [if_pos he]
      by_cases hl:B.left=0
      · simp (disch:=first | omega | assumption | (simp; done) | fail) [zvR h d,hm,zaj (hgr _),h0,h1',zaj (h.hd hd),D.isAgg,D.width,D.cell,zw0 (h.get1 hd) ho hp,zh7,zum hT ho hp,hj,he,e1,zA0 h hw,hl]
        exact ⟨rfl,rfl⟩
      · simp (disch:=first | omega | assumption | (simp; done) | fail) [zvR h d,hm,zaj (hgr _),h0,h1',zaj (h.hd hd),D.isAgg,D.width,D.cell,zw0 (h.get1 hd) ho hp,zh7,zum hT ho hp,hj,he,e1,zA0 h hw,hl,hw1,hset]
        rw [e2]; exact ⟨rfl,rfl⟩
    · have e1:¬ ((B.dk d).write a x).1=0:=he
      simp (disch:=first | omega | assumption | (simp; done) | fail) [zvR h d,hm,zaj (hgr _),h0,h1',zaj (h.hd hd),D.isAgg,D.width,D.cell,zw0 (h.get1 hd) ho hp,zh7,zum hT ho hp,hj,he,e1]
      exact ⟨rfl,rfl⟩
  · simp [zvR h d,hm]
theorem zA2 (h:At T0 T1 b idx B) (hw:B.w≤1000000) (d:Int):
    zaB [.h kB b 0,.int .i64 d] [P0 T0 b idx B,P1 T1 idx B]=some (Ans.mk (.int .i64 (B.flush d).1) [] [P1 T1 idx (B.flush d).2]):=by
  rw [zjE]
  unfold zeC Ben.flush
  by_cases hm:B.may d=0
  · obtain ⟨hd,hdn⟩:=may0.1 hm
    obtain ⟨h0,h1⟩:=zdR.1 hd
    obtain ⟨ho,hp⟩:=h.ds hw d
    have h1':d.toNat < idx.length:=by have:=h.len; unfold Ben.n at h1; omega
    simp (disch:=first | omega | assumption | (simp; done) | fail) [zvR h d,hm,zaj h.get0,bRow,h0,h1',zaj (h.hd hd),D.isAgg,D.width,D.cell,zEt (h.get1 hd) ho hp,h.set1 hd]
  · simp [zvR h d,hm]
theorem zFO (h:At T0 T1 b idx B) (d:Int):
    zbg [.h kB b 0,.int .i64 d] [P0 T0 b idx B,P1 T1 idx B]=some (Ans.mk (.int .i64 (B.fail d).1) [] [P1 T1 idx (B.fail d).2]):=by
  rw [zkH]
  unfold ze1 Ben.fail
  cases hd:B.is d
  · simp [b_is h d,hd]
  · obtain ⟨h0,h1⟩:=zdR.1 hd
    have h1':d.toNat < idx.length:=by have:=h.len; unfold Ben.n at h1; omega
    simp (disch:=first | omega | assumption | (simp; done) | fail) [b_is h d,hd,zaj h.get0,bRow,h0,h1',zaj (h.hd hd),D.isAgg,D.width,D.cell,zFN (h.get1 hd) (zju h.ok d).1,h.set1 hd]
theorem zCy (h:At T0 T1 b idx B) (hw:B.w≤1000000) (d:Int) {a:Int} (hc:∀ w∈(B.dk d).pend,w.1≠a) (tg:Tag) (x:List Int):
    zbb [.h kB b 0,.int .i64 d,.int .i64 a,.sl tg (uL x)] [P0 T0 b idx B,P1 T1 idx B]=some (Ans.mk (.int .i64 (B.damage d a x).1) [] [P1 T1 idx (B.damage d a x).2]):=by
  rw [zjd,zcX]
  unfold zem Ben.damage
  cases hd:B.is d
  · simp [b_is h d,hd]
  · obtain ⟨h0,h1⟩:=zdR.1 hd
    obtain ⟨ho,hp⟩:=h.ds hw d
    have h1':d.toNat < idx.length:=by have:=h.len; unfold Ben.n at h1; omega
    simp (disch:=first | omega | assumption | (simp; done) | fail) [b_is h d,hd,zaj h.get0,bRow,h0,h1',zaj (h.hd hd),D.isAgg,D.width,D.cell,zCu (h.get1 hd) ho hp hc,h.set1 hd]
def zun (B:Ben):Nat→Int
  | 0=>0
  | k+1=>zun B k+(B.dk k).pend.length
theorem zx7 (hB:B.Ok):∀ k,0≤zun B k∧zun B k≤k*B.w
  | 0=>⟨Int.le_refl _,by simp [zun]⟩
  | k+1=>by
    have:=zx7 hB k
    have h2:=(zju hB k).2
    have e:((k+1:Nat):Int)*B.w=k*B.w+B.w:=by rw [Int.natCast_add,Int.add_mul]; simp
    unfold zun; rw [e]; omega
def Ben.pending (B:Ben):Int:=zun B B.ds.length
theorem zA3 (h:At T0 T1 b idx B) (hw:B.w≤1000000):zaY [.h kB b 0] [P0 T0 b idx B,P1 T1 idx B]=some (Ans.mk (.int .i64 B.pending) [] []):=by
  rw [ziA]
  unfold zdY Ben.pending
  have hrow:(P0 T0 b idx B)[b]? =some [.int .i64 B.w,.int .i64 B.left,.bool B.down,.sl .own (idx.map hD)]:=h.get0
  have hsm:=h.ok.small
  simp (disch:=first | omega | assumption | (simp; done) | fail) only [zaj hrow,zfL,znh,zbI,zaa,Nat.zero_add,Nat.le_refl,List.length_map,h.len]
  let st:Nat→(Int×(Nat×Nat×Nat)×Int×Int×PUnit)×List (List D)×List (List D)×PUnit:=fun k=>((zun B k,(b,0,B.ds.length),(B.ds.length:Int),(k:Int),PUnit.unit),P0 T0 b idx B,P1 T1 idx B,PUnit.unit)
  show zcd _ (st 0)=_
  refine zcM st B.ds.length (by omega) ?_ ?_
  · intro again k hk
    dsimp only [st]
    have hd:B.is k=true:=zdR.2 ⟨by omega,by unfold Ben.n; omega⟩
    have hp:=zx7 h.ok k
    have h2:=(zju h.ok k).2
    have hkw:(k:Int)*B.w≤8*1000000:=Int.mul_le_mul (by omega) hw h.ok.w0 (by omega)
    have hhd:(idx.map hD)[k]? =some (.h kD (ix idx k) 0):=by have:=h.hd hd; simpa using this
    have hw0:=h.ok.w0
    simp (disch:=first | omega | assumption | (simp; done) | fail) [zaj hrow,hk,zaj hhd,D.isAgg,D.width,D.cell,zAZ (h.get1 hd) (zju h.ok _).1,zao]
    rfl
  · intro again
    dsimp only [st]
    simp
end
end Wf

