/- A part of the proof: lemmas that the law's row leans on. -/
import Derived.Test.YtlbdpbbpoghncaaPd
set_option linter.all false
namespace Wf
open Go Go.RowKit Go.Proofs
set_option linter.unusedVariables false
set_option maxRecDepth 100000
def zeu:Ann:={ loops:=[] }
noncomputable def zaa:List D→Option D:=denP Try.prog (zaB []) zeu [0] ID.wattlekeep_Within
theorem zg1:za5 Try.prog ID.wattlekeep_Within (.pure [0] zaa):=zaA (zaE []) zbz ⟨Try.f16,by kernel_rfl,by kernel_rfl,by kernel_rfl⟩
noncomputable def zcM:Fact Try.prog:=⟨ID.wattlekeep_Within,(.pure [0] zaa),zg1⟩
noncomputable def zdA (a0:Int) (a1:Int):Option D:=
  brK (decide (a1 < (1:Int)))
    (some (D.int IntKind.i64 (0:Int)))
    (sif (a1≠(0:Int)) <|
    letN (Int.tmod a0 a1) fun n1=>
    brK (decide (n1 < (0:Int)))
      (letN (IntKind.wrap IntKind.i64 (n1+a1)) fun n2=>
      some (D.int IntKind.i64 n2))
      (some (D.int IntKind.i64 n1)))
theorem zjU (a0:Int) (a1:Int):denP Try.prog (zaB []) zeu [0] ID.wattlekeep_Within [.int .i64 a0,.int .i64 a1]=zdA a0 a1:=by kernel_rfl
theorem zhx (a0:Int) (a1:Int):zaa [.int .i64 a0,.int .i64 a1]=zdA a0 a1:=zjU a0 a1
def zev:Ann:={ loops:=[] }
noncomputable def zah:List D→Option D:=denP Try.prog (zaB []) zev [0] ID.wattleref01_Check
theorem zg2:za5 Try.prog ID.wattleref01_Check (.pure [0] zah):=zaA (zaE []) zbz ⟨Try.f53,by kernel_rfl,by kernel_rfl,by kernel_rfl⟩
noncomputable def zcN:Fact Try.prog:=⟨ID.wattleref01_Check,(.pure [0] zah),zg2⟩
noncomputable def zdB (a0_0:Int) (a0_1:Int) (a0_2:Int):Option D:=
  brK (a0_0 == (6:Int))
    (brK (a0_0 == (5:Int))
      (brK (decide (a0_1≥(4:Int)))
        (brK (decide (a0_1≤(8:Int)))
          (brK (a0_2 == (1:Int))
            (some (D.bool true))
            (brK (a0_2 == (2:Int))
              (some (D.bool true))
              (some (D.bool (a0_2 == (4:Int))))))
          (some (D.bool false)))
        (some (D.bool false)))
      (brK (a0_0 == (6:Int))
        (brK (decide (a0_1≥(4:Int)))
          (brK (decide (a0_1≤(8:Int)))
            (brK (a0_2 == (1:Int))
              (some (D.bool true))
              (brK (a0_2 == (2:Int))
                (some (D.bool true))
                (some (D.bool (a0_2 == (4:Int))))))
            (some (D.bool false)))
          (some (D.bool false)))
        (some (D.bool false))))
    (brK (a0_0 == (5:Int))
      (brK (decide (a0_1≥(3:Int)))
        (brK (decide (a0_1≤(8:Int)))
          (brK (a0_2 == (1:Int))
            (some (D.bool true))
            (brK (a0_2 == (2:Int))
              (some (D.bool true))
              (some (D.bool (a0_2 == (4:Int))))))
          (some (D.bool false)))
        (some (D.bool false)))
      (brK (a0_0 == (6:Int))
        (brK (decide (a0_1≥(3:Int)))
          (brK (decide (a0_1≤(8:Int)))
            (brK (a0_2 == (1:Int))
              (some (D.bool true))
              (brK (a0_2 == (2:Int))
                (some (D.bool true))
                (some (D.bool (a0_2 == (4:Int))))))
            (some (D.bool false)))
          (some (D.bool false)))
        (some (D.bool false))))
theorem zjV (a0_0:Int) (a0_1:Int) (a0_2:Int):denP Try.prog (zaB []) zev [0] ID.wattleref01_Check [.agg [.int .i64 a0_0,.int .i64 a0_1,.int .i64 a0_2]]=zdB a0_0 a0_1 a0_2:=by kernel_rfl
theorem zhy (a0_0:Int) (a0_1:Int) (a0_2:Int):zah [.agg [.int .i64 a0_0,.int .i64 a0_1,.int .i64 a0_2]]=zdB a0_0 a0_1 a0_2:=zjV a0_0 a0_1 a0_2
def zd2:Ann:={ loops:=[] }
noncomputable def zaQ:List D→Option D:=denP Try.prog (zaB [(ID.wattleref01_Check,(.pure [0] zah))]) zd2 [0] ID.wattleref01_Budget
theorem zgy:za5 Try.prog ID.wattleref01_Budget (.pure [0] zaQ):=zaA (zaE [zcN]) zbz ⟨Try.f76,by kernel_rfl,by kernel_rfl,by kernel_rfl⟩
noncomputable def zg3:Fact Try.prog:=⟨ID.wattleref01_Budget,(.pure [0] zaQ),zgy⟩
noncomputable def zdk (zah:List D→Option D) (a0_0:Int) (a0_1:Int) (a0_2:Int):Option D:=
  zar (zah [D.agg [D.int IntKind.i64 a0_0,D.int IntKind.i64 a0_1,D.int IntKind.i64 a0_2]]) fun r1=>
  asB r1 fun b2=>
  brK (!b2)
    (some (D.int IntKind.i64 (0:Int)))
    (letN (IntKind.wrap IntKind.i64 (a0_0 - (4:Int))) fun n3=>
    some (D.int IntKind.i64 n3))
theorem zi6 (zah:List D→Option D) (a0_0:Int) (a0_1:Int) (a0_2:Int):denP Try.prog (zaB [(ID.wattleref01_Check,(.pure [0] zah))]) zd2 [0] ID.wattleref01_Budget [.agg [.int .i64 a0_0,.int .i64 a0_1,.int .i64 a0_2]]=zdk zah a0_0 a0_1 a0_2:=by kernel_rfl
theorem zg4 (a0_0:Int) (a0_1:Int) (a0_2:Int):zaQ [.agg [.int .i64 a0_0,.int .i64 a0_1,.int .i64 a0_2]]=zdk zah a0_0 a0_1 a0_2:=zi6 zah a0_0 a0_1 a0_2
def zew:Ann:={ loops:=[] }
noncomputable def zaP:List D→Option D:=denP Try.prog (zaB [(ID.wattleref01_Check,(.pure [0] zah)),(ID.wattleref01_Budget,(.pure [0] zaQ))]) zew [0] ID.wattleref01_Width
theorem zg5:za5 Try.prog ID.wattleref01_Width (.pure [0] zaP):=zaA (zaE [zcN,zg3]) zbz ⟨Try.f32,by kernel_rfl,by kernel_rfl,by kernel_rfl⟩
noncomputable def zhz:Fact Try.prog:=⟨ID.wattleref01_Width,(.pure [0] zaP),zg5⟩
noncomputable def zdC (zah:List D→Option D) (zaQ:List D→Option D) (a0_0:Int) (a0_1:Int) (a0_2:Int):Option D:=
  zar (zah [D.agg [D.int IntKind.i64 a0_0,D.int IntKind.i64 a0_1,D.int IntKind.i64 a0_2]]) fun r1=>
  asB r1 fun b2=>
  brK (!b2)
    (some (D.int IntKind.i64 (0:Int)))
    (zar (zaQ [D.agg [D.int IntKind.i64 a0_0,D.int IntKind.i64 a0_1,D.int IntKind.i64 a0_2]]) fun r3=>
    asI IntKind.i64 r3 fun i4=>
    letN (IntKind.wrap IntKind.i64 (a0_1 - i4)) fun n5=>
    some (D.int IntKind.i64 n5))
theorem zjW (zah:List D→Option D) (zaQ:List D→Option D) (a0_0:Int) (a0_1:Int) (a0_2:Int):denP Try.prog (zaB [(ID.wattleref01_Check,(.pure [0] zah)),(ID.wattleref01_Budget,(.pure [0] zaQ))]) zew [0] ID.wattleref01_Width [.agg [.int .i64 a0_0,.int .i64 a0_1,.int .i64 a0_2]]=zdC zah zaQ a0_0 a0_1 a0_2:=by kernel_rfl
theorem zhA (a0_0:Int) (a0_1:Int) (a0_2:Int):zaP [.agg [.int .i64 a0_0,.int .i64 a0_1,.int .i64 a0_2]]=zdC zah zaQ a0_0 a0_1 a0_2:=zjW zah zaQ a0_0 a0_1 a0_2
def zfj:Ann:={ loops:=[] }
noncomputable def zaS:List D→Option D:=denP Try.prog (zaB [(ID.wattleref01_Check,(.pure [0] zah)),(ID.wattleref01_Width,(.pure [0] zaP))]) zfj [0] ID.wattleref01_Can
theorem zic:za5 Try.prog ID.wattleref01_Can (.pure [0] zaS):=zaA (zaE [zcN,zhz]) zbz ⟨Try.f61,by kernel_rfl,by kernel_rfl,by kernel_rfl⟩
noncomputable def zi7:Fact Try.prog:=⟨ID.wattleref01_Can,(.pure [0] zaS),zic⟩
noncomputable def zd9 (zah:List D→Option D) (zaP:List D→Option D) (a0_0:Int) (a0_1:Int) (a0_2:Int) (a1_0:Int) (a1_1:Int) (a1_2:Int):Option D:=
  zar (zah [D.agg [D.int IntKind.i64 a0_0,D.int IntKind.i64 a0_1,D.int IntKind.i64 a0_2]]) fun r1=>
  asB r1 fun b2=>
  brK b2
    (zar (zah [D.agg [D.int IntKind.i64 a1_0,D.int IntKind.i64 a1_1,D.int IntKind.i64 a1_2]]) fun r3=>
    asB r3 fun b4=>
    brK b4
      (brK (!(a0_0 == a1_0 && (a0_1 == a1_1 && (a0_2 == a1_2 && true))))
        (brK (decide (a1_1≥a0_1))
          (brK (decide (a1_0≥a0_0))
            (zar (zaP [D.agg [D.int IntKind.i64 a1_0,D.int IntKind.i64 a1_1,D.int IntKind.i64 a1_2]]) fun r5=>
            asI IntKind.i64 r5 fun i6=>
            zar (zaP [D.agg [D.int IntKind.i64 a0_0,D.int IntKind.i64 a0_1,D.int IntKind.i64 a0_2]]) fun r7=>
            asI IntKind.i64 r7 fun i8=>
            some (D.bool (decide (i6≥i8))))
            (some (D.bool false)))
          (some (D.bool false)))
        (some (D.bool false)))
      (some (D.bool false)))
    (some (D.bool false))
theorem zlB (zah:List D→Option D) (zaP:List D→Option D) (a0_0:Int) (a0_1:Int) (a0_2:Int) (a1_0:Int) (a1_1:Int) (a1_2:Int):denP Try.prog (zaB [(ID.wattleref01_Check,(.pure [0] zah)),(ID.wattleref01_Width,(.pure [0] zaP))]) zfj [0] ID.wattleref01_Can [.agg [.int .i64 a0_0,.int .i64 a0_1,.int .i64 a0_2],.agg [.int .i64 a1_0,.int .i64 a1_1,.int .i64 a1_2]]=zd9 zah zaP a0_0 a0_1 a0_2 a1_0 a1_1 a1_2:=by kernel_rfl
theorem zi8 (a0_0:Int) (a0_1:Int) (a0_2:Int) (a1_0:Int) (a1_1:Int) (a1_2:Int):zaS [.agg [.int .i64 a0_0,.int .i64 a0_1,.int .i64 a0_2],.agg [.int .i64 a1_0,.int .i64 a1_1,.int .i64 a1_2]]=zd9 zah zaP a0_0 a0_1 a0_2 a1_0 a1_1 a1_2:=zlB zah zaP a0_0 a0_1 a0_2 a1_0 a1_1 a1_2
def zfk:Ann:={ loops:=[] }
noncomputable def za6:List D→Option D:=denP Try.prog (zaB [(ID.wattlekeep_Within,(.pure [0] zaa)),(ID.wattleref01_Can,(.pure [0] zaS))]) zfk [0,0] ID.wattleplay_Pair
theorem zid:za5 Try.prog ID.wattleplay_Pair (.pure [0,0] za6):=zaA (zaE [zcM,zi7]) zbz ⟨Try.f47,by kernel_rfl,by kernel_rfl,by kernel_rfl⟩
noncomputable def zi9:Fact Try.prog:=⟨ID.wattleplay_Pair,(.pure [0,0] za6),zid⟩
noncomputable def zea (zaa:List D→Option D) (zaS:List D→Option D) (a0:Int) (a1:Int):Option D:=
  zar (zaa [D.int IntKind.i64 a0,D.int IntKind.i64 (2:Int)]) fun r1=>
  asI IntKind.i64 r1 fun i2=>
  letN (IntKind.wrap IntKind.i64 ((3:Int)+i2)) fun n3=>
  letN (IntKind.wrap IntKind.i64 (Int.tdiv a0 (2:Int))) fun n4=>
  zar (zaa [D.int IntKind.i64 n4,D.int IntKind.i64 (3:Int)]) fun r5=>
  asI IntKind.i64 r5 fun i6=>
  sif ((0:Int)≤i6) <|
  getK ([D.int IntKind.i64 (1:Int),D.int IntKind.i64 (2:Int),D.int IntKind.i64 (4:Int)]) (Int.toNat i6) fun d7=>
  asI IntKind.i64 d7 fun i8=>
  letN (IntKind.wrap IntKind.i64 (Int.tdiv a0 (6:Int))) fun n9=>
  zar (zaa [D.int IntKind.i64 n9,D.int IntKind.i64 (4:Int)]) fun r10=>
  asI IntKind.i64 r10 fun i11=>
  brK (i11 == (3:Int))
    (zar (zaa [D.int IntKind.i64 a0,D.int IntKind.i64 (2:Int)]) fun r12=>
    asI IntKind.i64 r12 fun i13=>
    letN (IntKind.wrap IntKind.i64 ((4:Int)+i13)) fun n14=>
    zar (zaa [D.int IntKind.i64 a1,D.int IntKind.i64 (3:Int)]) fun r15=>
    asI IntKind.i64 r15 fun i16=>
    letN (IntKind.wrap IntKind.i64 (n14+i16)) fun n17=>
    letN (IntKind.wrap IntKind.i64 (Int.tdiv a1 (3:Int))) fun n18=>
    zar (zaa [D.int IntKind.i64 n18,D.int IntKind.i64 (3:Int)]) fun r19=>
    asI IntKind.i64 r19 fun i20=>
    sif ((0:Int)≤i20) <|
    getK ([D.int IntKind.i64 (1:Int),D.int IntKind.i64 (2:Int),D.int IntKind.i64 (4:Int)]) (Int.toNat i20) fun d21=>
    asI IntKind.i64 d21 fun i22=>
    zar (zaS [D.agg [D.int IntKind.i64 (6:Int),D.int IntKind.i64 n14,D.int IntKind.i64 i8],D.agg [D.int IntKind.i64 (6:Int),D.int IntKind.i64 n17,D.int IntKind.i64 i22]]) fun r23=>
    asB r23 fun b24=>
    brK (!b24)
      (letN (IntKind.wrap IntKind.i64 (n17+(1:Int))) fun n25=>
      some (D.tup [D.agg [D.int IntKind.i64 (6:Int),D.int IntKind.i64 n14,D.int IntKind.i64 i8],D.agg [D.int IntKind.i64 (6:Int),D.int IntKind.i64 n25,D.int IntKind.i64 i22]]))
      (some (D.tup [D.agg [D.int IntKind.i64 (6:Int),D.int IntKind.i64 n14,D.int IntKind.i64 i8],D.agg [D.int IntKind.i64 (6:Int),D.int IntKind.i64 n17,D.int IntKind.i64 i22]])))
    (zar (zaa [D.int IntKind.i64 a1,D.int IntKind.i64 (3:Int)]) fun r26=>
    asI IntKind.i64 r26 fun i27=>
    letN (IntKind.wrap IntKind.i64 (n3+i27)) fun n28=>
    letN (IntKind.wrap IntKind.i64 (Int.tdiv a1 (3:Int))) fun n29=>
    zar (zaa [D.int IntKind.i64 n29,D.int IntKind.i64 (3:Int)]) fun r30=>
    asI IntKind.i64 r30 fun i31=>
    sif ((0:Int)≤i31) <|
    getK ([D.int IntKind.i64 (1:Int),D.int IntKind.i64 (2:Int),D.int IntKind.i64 (4:Int)]) (Int.toNat i31) fun d32=>
    asI IntKind.i64 d32 fun i33=>
    letN (IntKind.wrap IntKind.i64 (Int.tdiv a1 (9:Int))) fun n34=>
    zar (zaa [D.int IntKind.i64 n34,D.int IntKind.i64 (2:Int)]) fun r35=>
    asI IntKind.i64 r35 fun i36=>
    brK (i36 == (1:Int))
      (letN (IntKind.wrap IntKind.i64 (n3+(1:Int))) fun n37=>
      letN (max n28 n37) fun n38=>
      zar (zaS [D.agg [D.int IntKind.i64 (5:Int),D.int IntKind.i64 n3,D.int IntKind.i64 i8],D.agg [D.int IntKind.i64 (6:Int),D.int IntKind.i64 n38,D.int IntKind.i64 i33]]) fun r39=>
      asB r39 fun b40=>
      brK (!b40)
        (letN (IntKind.wrap IntKind.i64 (n38+(1:Int))) fun n41=>
        some (D.tup [D.agg [D.int IntKind.i64 (5:Int),D.int IntKind.i64 n3,D.int IntKind.i64 i8],D.agg [D.int IntKind.i64 (6:Int),D.int IntKind.i64 n41,D.int IntKind.i64 i33]]))
        (some (D.tup [D.agg [D.int IntKind.i64 (5:Int),D.int IntKind.i64 n3,D.int IntKind.i64 i8],D.agg [D.int IntKind.i64 (6:Int),D.int IntKind.i64 n38,D.int IntKind.i64 i33]])))
      (zar (zaS [D.agg [D.int IntKind.i64 (5:Int),D.int IntKind.i64 n3,D.int IntKind.i64 i8],D.agg [D.int IntKind.i64 (5:Int),D.int IntKind.i64 n28,D.int IntKind.i64 i33]]) fun r42=>
      asB r42 fun b43=>
      brK (!b43)
        (letN (IntKind.wrap IntKind.i64 (n28+(1:Int))) fun n44=>
        some (D.tup [D.agg [D.int IntKind.i64 (5:Int),D.int IntKind.i64 n3,D.int IntKind.i64 i8],D.agg [D.int IntKind.i64 (5:Int),D.int IntKind.i64 n44,D.int IntKind.i64 i33]]))
        (some (D.tup [D.agg [D.int IntKind.i64 (5:Int),D.int IntKind.i64 n3,D.int IntKind.i64 i8],D.agg [D.int IntKind.i64 (5:Int),D.int IntKind.i64 n28,D.int IntKind.i64 i33]]))))
theorem zlC (zaa:List D→Option D) (zaS:List D→Option D) (a0:Int) (a1:Int):denP Try.prog (zaB [(ID.wattlekeep_Within,(.pure [0] zaa)),(ID.wattleref01_Can,(.pure [0] zaS))]) zfk [0,0] ID.wattleplay_Pair [.int .i64 a0,.int .i64 a1]=zea zaa zaS a0 a1:=by kernel_rfl
theorem zja (a0:Int) (a1:Int):za6 [.int .i64 a0,.int .i64 a1]=zea zaa zaS a0 a1:=zlC zaa zaS a0 a1
def zmo:Ann:={ loops:=[],pubs:=[(1,[(0,119,7649)])],ks:=[(7649,true)] }
noncomputable def zck:List D→List Tb→Option Ans:=denS Try.prog (zaB []) zmo [0] ID.disk_New
theorem zoy:za5 Try.prog ID.disk_New (.st [] [0] [(7649,true)] zck):=zbi (zaE []) zbz ⟨Try.f80,by kernel_rfl,by kernel_rfl,by kernel_rfl⟩
noncomputable def zqG:Fact Try.prog:=⟨ID.disk_New,(.st [] [0] [(7649,true)] zck),zoy⟩
noncomputable def zlD (T0:Tb):Option Ans:=
  letT (T0++[List.map D.own0 (List.reverse ([D.bool false,D.sl Tag.nil []]++List.replicate 1664 (D.int IntKind.u8 (0:Int))))]) fun U1=>
  some (Ans.mk (D.h (7649:Nat) (List.length T0) (0:Nat)) [] [U1])
theorem zvm (T0:Tb):denS Try.prog (zaB []) zmo [0] ID.disk_New [] [T0]=zlD T0:=by kernel_rfl
theorem zqH (T0:Tb):zck [] [T0]=zlD T0:=zvm T0
def zkQ:Ann:={ loops:=[(1,[.dead,.dead,.dead,.dead,.val (.cell (.hnd (3840:Nat))),.dead,.dead,.dead,.dead,.dead,.dead,.dead,.dead,.dead,.val (.cell (.int .i64)),.val (.cell (.int .i64))])],pubs:=[(3,[(4,63,3840)])],ks:=[(3840,true),(7649,true)] }
noncomputable def za2:List D→List Tb→Option Ans:=denS Try.prog (zaB [(ID.disk_New,(.st [] [0] [(7649,true)] zck))]) zkQ [0,0] ID.bench_New
theorem zn6:za5 Try.prog ID.bench_New (.st [] [0,0] [(3840,true),(7649,true)] za2):=zbi (zaE [zqG]) zbz ⟨Try.f35,by kernel_rfl,by kernel_rfl,by kernel_rfl⟩
noncomputable def zjw:Fact Try.prog:=⟨ID.bench_New,(.st [] [0,0] [(3840,true),(7649,true)] za2),zn6⟩
noncomputable def zjX (zck:List D→List Tb→Option Ans) (a0:Int) (T0:Tb) (T1:Tb):Option Ans:=
  brK (decide (a0 < (1:Int)))
    (some (Ans.mk (D.tup [D.nilp,D.int IntKind.i64 (1:Int)]) [] [T0,T1]))
    (brK (decide (a0 > (8:Int)))
      (some (Ans.mk (D.tup [D.nilp,D.int IntKind.i64 (1:Int)]) [] [T0,T1]))
      (letT (T0++[[D.own0 (D.int IntKind.i64 (0:Int)),D.own0 (D.int IntKind.i64 (-1:Int)),D.own0 (D.bool false),D.own0 (D.sl Tag.nil [])]]) fun U1=>
      zcR (α:=(Nat×Int×Int×PUnit)×List (List D)×List (List D)×PUnit) (fun again2 ((x3,(i4,(i5,_))),(U6,(U7,_)))=>
        brK (decide (i5 < i4))
          (getK U6 x3 fun d8=>
          getK d8 ((3:Nat)) fun d9=>
          zbd d9 fun l10=>
          zar (zck [] [U7]) fun r11=>
          nilK r11.outs <|
          zbF r11.tbs fun c12 q13=>
          nilK q13 <|
          sif (zjs r11.r=true) <|
          sif (zdq (1:Nat) [r11.r]=true) <|
          getK U6 x3 fun d14=>
          getK d14 ((3:Nat)) fun d15=>
          zbd d15 fun l16=>
          sif (List.length l10+(1:Nat)≤(4294967296:Nat)) <|
          sif (zdq (1:Nat) [r11.r]=true) <|
          sif (List.length l10=List.length l16) <|
          letT (setT U6 x3 (3:Nat) D.undef) fun U17=>
          getK U17 x3 fun d18=>
          sif ((4:Nat)≤List.length d18) <|
          sif (List.length l10+(1:Nat)=List.length (l16++[r11.r])) <|
          sif (zcL (l16++[r11.r])=true) <|
          sif (zeJ (1:Nat) (l16++[r11.r])=true) <|
          letT (zaN U17 x3 (3:Nat) [D.sl Tag.own (l16++[r11.r])]) fun U19=>
          letN (IntKind.wrap IntKind.i64 (i5+(1:Int))) fun n20=>
          again2 (((x3,i4,n20,PUnit.unit),U19,c12,PUnit.unit)))
          (some (Ans.mk (D.tup [D.h (3840) x3 (0:Nat),D.int IntKind.i64 (0:Int)]) [] [U6,U7])))
        (((List.length T0,a0,(0:Int),PUnit.unit),U1,T1,PUnit.unit))))
theorem zto (zck:List D→List Tb→Option Ans) (a0:Int) (T0:Tb) (T1:Tb):denS Try.prog (zaB [(ID.disk_New,(.st [] [0] [(7649,true)] zck))]) zkQ [0,0] ID.bench_New [.int .i64 a0] [T0,T1]=zjX zck a0 T0 T1:=by kernel_rfl
theorem zoz (a0:Int) (T0:Tb) (T1:Tb):za2 [.int .i64 a0] [T0,T1]=zjX zck a0 T0 T1:=zto zck a0 T0 T1
def zfl:Ann:={ loops:=[(0,[.val (.cell (.int .i64)),.val (.cell (.int .i64)),.dead,.dead,.dead,.own 1,.dead,.dead,.dead,.dead,.val (.cell (.int .i64)),.val (.cell (.int .i64))])] }
noncomputable def za7:List D→Option D:=denP Try.prog (zaB [(ID.wattlekeep_Within,(.pure [0] zaa))]) zfl [1] ID.wattleplay_Live
theorem zie:za5 Try.prog ID.wattleplay_Live (.pure [1] za7):=zaA (zaE [zcM]) zbz ⟨Try.f18,by kernel_rfl,by kernel_rfl,by kernel_rfl⟩
noncomputable def zjb:Fact Try.prog:=⟨ID.wattleplay_Live,(.pure [1] za7),zie⟩
noncomputable def zeb (zaa:List D→Option D) (a0:Int) (a1:Int):Option D:=
  sif ((0:Int)≤a1) <|
  sif (a1=a1) <|
  sif (a1*(1:Int)≤(140737488355328:Int)) <|
  sif (a1≤(140737488355328:Int)) <|
  sif ((0:Nat)+Int.toNat a1≤List.length (List.replicate (Int.toNat a1) (D.bool false))) <|
  sif (Int.toNat a1=List.length (List.replicate (Int.toNat a1) (D.bool false))) <|
  zcR (α:=(Int×Int×List D×Int×Int×PUnit)×PUnit) (fun again1 ((i2,(i3,(l4,(i5,(i6,_))))),_)=>
    brK (decide (i6 < i5))
      (sif ((0:Int)≤i6) <|
      sif (Int.toNat i6 < List.length l4) <|
      getK l4 ((0:Nat)+Int.toNat i6) fun d7=>
      sif (D.isAgg d7=false) <|
      letN (IntKind.wrap IntKind.i64 (i6+(1:Int))) fun n8=>
      sif (List.length l4=List.length (List.set l4 ((0:Nat)+Int.toNat i6) (D.bool true))) <|
      again1 (((i2,i3,List.set l4 ((0:Nat)+Int.toNat i6) (D.bool true),i5,n8,PUnit.unit),PUnit.unit)))
      (brK (decide (i3 > (0:Int)))
        (zar (zaa [D.int IntKind.i64 i2,D.int IntKind.i64 (3:Int)]) fun r9=>
        asI IntKind.i64 r9 fun i10=>
        brK (decide (i10 > (0:Int)))
          (letN (IntKind.wrap IntKind.i64 (Int.tdiv i2 (3:Int))) fun n11=>
          zar (zaa [D.int IntKind.i64 n11,D.int IntKind.i64 i3]) fun r12=>
          asI IntKind.i64 r12 fun i13=>
          sif ((0:Int)≤i13) <|
          sif (Int.toNat i13 < List.length l4) <|
          getK l4 ((0:Nat)+Int.toNat i13) fun d14=>
          sif (D.isAgg d14=false) <|
          brK (decide (i3 > (0:Int)))
            (zar (zaa [D.int IntKind.i64 i2,D.int IntKind.i64 (9:Int)]) fun r15=>
            asI IntKind.i64 r15 fun i16=>
            brK (i16 == (8:Int))
              (letN (IntKind.wrap IntKind.i64 (Int.tdiv i2 (27:Int))) fun n17=>
              zar (zaa [D.int IntKind.i64 n17,D.int IntKind.i64 i3]) fun r18=>
              asI IntKind.i64 r18 fun i19=>
              sif ((0:Int)≤i19) <|
              sif (Int.toNat i19 < List.length l4) <|
              getK (List.set l4 ((0:Nat)+Int.toNat i13) (D.bool false)) ((0:Nat)+Int.toNat i19) fun d20=>
              sif (D.isAgg d20=false) <|
              sif (List.length l4=List.length (List.set (List.set l4 ((0:Nat)+Int.toNat i13) (D.bool false)) ((0:Nat)+Int.toNat i19) (D.bool false))) <|
              sif (List.all (List.set (List.set l4 ((0:Nat)+Int.toNat i13) (D.bool false)) ((0:Nat)+Int.toNat i19) (D.bool false)) D.free=true) <|
              some (D.sl Tag.own (List.set (List.set l4 ((0:Nat)+Int.toNat i13) (D.bool false)) ((0:Nat)+Int.toNat i19) (D.bool false))))
              (sif (List.length l4=List.length (List.set l4 ((0:Nat)+Int.toNat i13) (D.bool false))) <|
              sif (List.all (List.set l4 ((0:Nat)+Int.toNat i13) (D.bool false)) D.free=true) <|
              some (D.sl Tag.own (List.set l4 ((0:Nat)+Int.toNat i13) (D.bool false)))))
            (sif (List.length l4=List.length (List.set l4 ((0:Nat)+Int.toNat i13) (D.bool false))) <|
            sif (List.all (List.set l4 ((0:Nat)+Int.toNat i13) (D.bool false)) D.free=true) <|
            some (D.sl Tag.own (List.set l4 ((0:Nat)+Int.toNat i13) (D.bool false)))))
          (brK (decide (i3 > (0:Int)))
            (zar (zaa [D.int IntKind.i64 i2,D.int IntKind.i64 (9:Int)]) fun r21=>
            asI IntKind.i64 r21 fun i22=>
            brK (i22 == (8:Int))
              (letN (IntKind.wrap IntKind.i64 (Int.tdiv i2 (27:Int))) fun n23=>
              zar (zaa [D.int IntKind.i64 n23,D.int IntKind.i64 i3]) fun r24=>
              asI IntKind.i64 r24 fun i25=>
              sif ((0:Int)≤i25) <|
              sif (Int.toNat i25 < List.length l4) <|
              getK l4 ((0:Nat)+Int.toNat i25) fun d26=>
              sif (D.isAgg d26=false) <|
              sif (List.length l4=List.length (List.set l4 ((0:Nat)+Int.toNat i25) (D.bool false))) <|
              sif (List.all (List.set l4 ((0:Nat)+Int.toNat i25) (D.bool false)) D.free=true) <|
              some (D.sl Tag.own (List.set l4 ((0:Nat)+Int.toNat i25) (D.bool false))))
              (sif (List.length l4=List.length l4) <|
              sif (List.all l4 D.free=true) <|
              some (D.sl Tag.own l4)))
            (sif (List.length l4=List.length l4) <|
            sif (List.all l4 D.free=true) <|
            some (D.sl Tag.own l4))))
        (brK (decide (i3 > (0:Int)))
          (zar (zaa [D.int IntKind.i64 i2,D.int IntKind.i64 (9:Int)]) fun r27=>
          asI IntKind.i64 r27 fun i28=>
          brK (i28 == (8:Int))
            (letN (IntKind.wrap IntKind.i64 (Int.tdiv i2 (27:Int))) fun n29=>
            zar (zaa [D.int IntKind.i64 n29,D.int IntKind.i64 i3]) fun r30=>
            asI IntKind.i64 r30 fun i31=>
            sif ((0:Int)≤i31) <|
            sif (Int.toNat i31 < List.length l4) <|
            getK l4 ((0:Nat)+Int.toNat i31) fun d32=>
            sif (D.isAgg d32=false) <|
            sif (List.length l4=List.length (List.set l4 ((0:Nat)+Int.toNat i31) (D.bool false))) <|
            sif (List.all (List.set l4 ((0:Nat)+Int.toNat i31) (D.bool false)) D.free=true) <|
            some (D.sl Tag.own (List.set l4 ((0:Nat)+Int.toNat i31) (D.bool false))))
            (sif (List.length l4=List.length l4) <|
            sif (List.all l4 D.free=true) <|
            some (D.sl Tag.own l4)))
          (sif (List.length l4=List.length l4) <|
          sif (List.all l4 D.free=true) <|
          some (D.sl Tag.own l4)))))
    (((a0,a1,List.replicate (Int.toNat a1) (D.bool false),(↑(Int.toNat a1):Int),(0:Int),PUnit.unit),PUnit.unit))
theorem zlE (zaa:List D→Option D) (a0:Int) (a1:Int):denP Try.prog (zaB [(ID.wattlekeep_Within,(.pure [0] zaa))]) zfl [1] ID.wattleplay_Live [.int .i64 a0,.int .i64 a1]=zeb zaa a0 a1:=by kernel_rfl
theorem zjc (a0:Int) (a1:Int):za7 [.int .i64 a0,.int .i64 a1]=zeb zaa a0 a1:=zlE zaa a0 a1
def zfm:Ann:={ loops:=[],ks:=[(3840,false)] }
noncomputable def zak:List D→List Tb→Option Ans:=denS Try.prog (zaB []) zfm [0] ID.bench_Bench_Len
theorem zif:za5 Try.prog ID.bench_Bench_Len (.st [] [0] [(3840,false)] zak):=zbi (zaE []) zbz ⟨Try.f68,by kernel_rfl,by kernel_rfl,by kernel_rfl⟩
noncomputable def zeK:Fact Try.prog:=⟨ID.bench_Bench_Len,(.st [] [0] [(3840,false)] zak),zif⟩
noncomputable def zec (a0:Nat) (T0:Tb):Option Ans:=
  getK T0 a0 fun d1=>
  getK d1 ((3:Nat)) fun d2=>
  zbd d2 fun l3=>
  getK T0 a0 fun d4=>
  getK d4 ((3:Nat)) fun d5=>
  zbd d5 fun l6=>
  sif ((0:Nat)+List.length l3≤List.length l6) <|
  some (Ans.mk (D.int IntKind.i64 (↑(List.length l3):Int)) [] [])
theorem zlF (a0:Nat) (T0:Tb):denS Try.prog (zaB []) zfm [0] ID.bench_Bench_Len [.h 3840 a0 0] [T0]=zec a0 T0:=by kernel_rfl
theorem zjd (a0:Nat) (T0:Tb):zak [.h 3840 a0 0] [T0]=zec a0 T0:=zlF a0 T0
def zdL:Ann:={ loops:=[(0,[.val (.cell .lent),.val (.cell (.int .i64)),.dead,.dead,.dead,.dead,.dead,.val (.cell (.int .i64)),.val (.cell (.int .i64))])] }
noncomputable def zaO:List D→Option D:=denP Try.prog (zaB []) zdL [0] ID.slices_Index_int_int
theorem zfE:za5 Try.prog ID.slices_Index_int_int (.pure [0] zaO):=zaA (zaE []) zbz ⟨Try.f87,by kernel_rfl,by kernel_rfl,by kernel_rfl⟩
noncomputable def zf2:Fact Try.prog:=⟨ID.slices_Index_int_int,(.pure [0] zaO),zfE⟩
noncomputable def zcO (a0:List D) (a1:Int):Option D:=
  zcR (α:=(List D×Int×Int×Int×PUnit)×PUnit) (fun again1 ((l2,(i3,(i4,(i5,_)))),_)=>
    brK (decide (i5 < i4))
      (sif ((0:Int)≤i5) <|
      getK l2 (Int.toNat i5) fun d6=>
      asI IntKind.i64 d6 fun i7=>
      brK (i3 == i7)
        (some (D.int IntKind.i64 i5))
        (letN (IntKind.wrap IntKind.i64 (i5+(1:Int))) fun n8=>
        again1 (((l2,i3,i4,n8,PUnit.unit),PUnit.unit))))
      (some (D.int IntKind.i64 (-1:Int))))
    (((a0,a1,(↑(List.length a0):Int),(0:Int),PUnit.unit),PUnit.unit))
theorem zhB (tga0:Tag) (a0:List D) (a1:Int):denP Try.prog (zaB []) zdL [0] ID.slices_Index_int_int [.sl tga0 a0,.int .i64 a1]=zcO (D.lentL a0) a1:=by kernel_rfl
theorem zf3 (tga0:Tag) (a0:List D) (a1:Int):zaO [.sl tga0 a0,.int .i64 a1]=zcO (D.lentL a0) a1:=zhB tga0 a0 a1
def zc3:Ann:={ loops:=[] }
noncomputable def zaC:List D→Option D:=denP Try.prog (zaB [(ID.slices_Index_int_int,(.pure [0] zaO))]) zc3 [0] ID.slices_Contains_int_int
theorem zeC:za5 Try.prog ID.slices_Contains_int_int (.pure [0] zaC):=zaA (zaE [zf2]) zbz ⟨Try.f101,by kernel_rfl,by kernel_rfl,by kernel_rfl⟩
noncomputable def zeW:Fact Try.prog:=⟨ID.slices_Contains_int_int,(.pure [0] zaC),zeC⟩
noncomputable def zcr (zaO:List D→Option D) (a0:List D) (a1:Int):Option D:=
  zar (zaO [D.sl Tag.lent a0,D.int IntKind.i64 a1]) fun r1=>
  asI IntKind.i64 r1 fun i2=>
  some (D.bool (decide (i2≥(0:Int))))
theorem zf4 (zaO:List D→Option D) (tga0:Tag) (a0:List D) (a1:Int):denP Try.prog (zaB [(ID.slices_Index_int_int,(.pure [0] zaO))]) zc3 [0] ID.slices_Contains_int_int [.sl tga0 a0,.int .i64 a1]=zcr zaO (D.lentL a0) a1:=by kernel_rfl
theorem zeX (tga0:Tag) (a0:List D) (a1:Int):zaC [.sl tga0 a0,.int .i64 a1]=zcr zaO (D.lentL a0) a1:=zf4 zaO tga0 a0 a1
def zjx:Ann:={ loops:=[] }
noncomputable def zaf:List D→Option D:=denP Try.prog (zaB [(ID.slices_Contains_int_int,(.pure [0] zaC))]) zjx [0] ID.geom_Check
theorem zmy:za5 Try.prog ID.geom_Check (.pure [0] zaf):=zaA (zaE [zeW]) zbz ⟨Try.f69,by kernel_rfl,by kernel_rfl,by kernel_rfl⟩
noncomputable def zcv:Fact Try.prog:=⟨ID.geom_Check,(.pure [0] zaf),zmy⟩
noncomputable def zih (zaC:List D→Option D) (a0_0:Int) (a0_1:Int) (a0_2:Int):Option D:=
  asI IntKind.i64 (zu7 a0_0 (D.int IntKind.i64 (0:Int)) (setD (6:Int) (D.int IntKind.i64 (4:Int)) (setD (5:Int) (D.int IntKind.i64 (3:Int)) []))) fun i1=>
  brK (i1 == (0:Int))
    (some (D.int IntKind.i64 (1:Int)))
    (brK (decide (a0_1 < i1))
      (some (D.int IntKind.i64 (1:Int)))
      (brK (decide (a0_1 > (8:Int)))
        (some (D.int IntKind.i64 (1:Int)))
        (zar (zaC [D.sl Tag.full [D.int IntKind.i64 (1:Int),D.int IntKind.i64 (2:Int),D.int IntKind.i64 (4:Int)],D.int IntKind.i64 a0_2]) fun r2=>
        asB r2 fun b3=>
        brK (!b3)
          (some (D.int IntKind.i64 (1:Int)))
          (some (D.int IntKind.i64 (0:Int))))))
theorem zsh (zaC:List D→Option D) (a0_0:Int) (a0_1:Int) (a0_2:Int):denP Try.prog (zaB [(ID.slices_Contains_int_int,(.pure [0] zaC))]) zjx [0] ID.geom_Check [.agg [.int .i64 a0_0,.int .i64 a0_1,.int .i64 a0_2]]=zih zaC a0_0 a0_1 a0_2:=by kernel_rfl
theorem zn7 (a0_0:Int) (a0_1:Int) (a0_2:Int):zaf [.agg [.int .i64 a0_0,.int .i64 a0_1,.int .i64 a0_2]]=zih zaC a0_0 a0_1 a0_2:=zsh zaC a0_0 a0_1 a0_2
def zii:Ann:={ loops:=[] }
noncomputable def zbx:List D→Option D:=denP Try.prog (zaB [(ID.geom_Check,(.pure [0] zaf))]) zii [0] ID.rebuild_may
theorem zlG:za5 Try.prog ID.rebuild_may (.pure [0] zbx):=zaA (zaE [zcv]) zbz ⟨Try.f91,by kernel_rfl,by kernel_rfl,by kernel_rfl⟩
noncomputable def zmz:Fact Try.prog:=⟨ID.rebuild_may,(.pure [0] zbx),zlG⟩
noncomputable def zg6 (zaf:List D→Option D) (a0_0:Int) (a0_1:Int) (a0_2:Int) (a1_0:Int) (a1_1:Int) (a1_2:Int) (a2:Int):Option D:=
  zar (zaf [D.agg [D.int IntKind.i64 a0_0,D.int IntKind.i64 a0_1,D.int IntKind.i64 a0_2]]) fun r1=>
  asI IntKind.i64 r1 fun i2=>
  brK (i2 == (0:Int))
    (brK (decide (a2≥(0:Int)))
      (brK (decide (a2≤(16:Int)))
        (brK (a2 == (0:Int))
          (some (D.bool true))
          (zar (zaf [D.agg [D.int IntKind.i64 a1_0,D.int IntKind.i64 a1_1,D.int IntKind.i64 a1_2]]) fun r3=>
          asI IntKind.i64 r3 fun i4=>
          some (D.bool (i4 == (0:Int)))))
        (some (D.bool false)))
      (some (D.bool false)))
    (some (D.bool false))
theorem zqI (zaf:List D→Option D) (a0_0:Int) (a0_1:Int) (a0_2:Int) (a1_0:Int) (a1_1:Int) (a1_2:Int) (a2:Int):denP Try.prog (zaB [(ID.geom_Check,(.pure [0] zaf))]) zii [0] ID.rebuild_may [.agg [.int .i64 a0_0,.int .i64 a0_1,.int .i64 a0_2],.agg [.int .i64 a1_0,.int .i64 a1_1,.int .i64 a1_2],.int .i64 a2]=zg6 zaf a0_0 a0_1 a0_2 a1_0 a1_1 a1_2 a2:=by kernel_rfl
theorem zmA (a0_0:Int) (a0_1:Int) (a0_2:Int) (a1_0:Int) (a1_1:Int) (a1_2:Int) (a2:Int):zbx [.agg [.int .i64 a0_0,.int .i64 a0_1,.int .i64 a0_2],.agg [.int .i64 a1_0,.int .i64 a1_1,.int .i64 a1_2],.int .i64 a2]=zg6 zaf a0_0 a0_1 a0_2 a1_0 a1_1 a1_2 a2:=zqI zaf a0_0 a0_1 a0_2 a1_0 a1_1 a1_2 a2
def zfS:Ann:={ loops:=[],ks:=[(3840,false)] }
noncomputable def zan:List D→List Tb→Option Ans:=denS Try.prog (zaB []) zfS [0] ID.bench_Bench_is
theorem zje:za5 Try.prog ID.bench_Bench_is (.st [] [0] [(3840,false)] zan):=zbi (zaE []) zbz ⟨Try.f66,by kernel_rfl,by kernel_rfl,by kernel_rfl⟩
noncomputable def zdD:Fact Try.prog:=⟨ID.bench_Bench_is,(.st [] [0] [(3840,false)] zan),zje⟩
noncomputable def zeD (a0:Nat) (a1:Int) (T0:Tb):Option Ans:=
  brK (decide (a1≥(0:Int)))
    (getK T0 a0 fun d1=>
    getK d1 ((3:Nat)) fun d2=>
    zbd d2 fun l3=>
    getK T0 a0 fun d4=>
    getK d4 ((3:Nat)) fun d5=>
    zbd d5 fun l6=>
    sif ((0:Nat)+List.length l3≤List.length l6) <|
    some (Ans.mk (D.bool (decide (a1 < (↑(List.length l3):Int)))) [] []))
    (some (Ans.mk (D.bool false) [] []))
theorem zmB (a0:Nat) (a1:Int) (T0:Tb):denS Try.prog (zaB []) zfS [0] ID.bench_Bench_is [.h 3840 a0 0,.int .i64 a1] [T0]=zeD a0 a1 T0:=by kernel_rfl
theorem zjY (a0:Nat) (a1:Int) (T0:Tb):zan [.h 3840 a0 0,.int .i64 a1] [T0]=zeD a0 a1 T0:=zmB a0 a1 T0
def zeL:Ann:={ loops:=[],ks:=[(7649,false)] }
noncomputable def za0:List D→List Tb→Option Ans:=denS Try.prog (zaB []) zeL [0] ID.disk_Disk_Failed
theorem zhC:za5 Try.prog ID.disk_Disk_Failed (.st [] [0] [(7649,false)] za0):=zbi (zaE []) zbz ⟨Try.f84,by kernel_rfl,by kernel_rfl,by kernel_rfl⟩
noncomputable def zij:Fact Try.prog:=⟨ID.disk_Disk_Failed,(.st [] [0] [(7649,false)] za0),zhC⟩
noncomputable def zdU (a0:Nat) (T0:Tb):Option Ans:=
  getK T0 a0 fun d1=>
  getK d1 ((1665:Nat)) fun d2=>
  asB d2 fun b3=>
  some (Ans.mk (D.bool b3) [] [])
theorem zkR (a0:Nat) (T0:Tb):denS Try.prog (zaB []) zeL [0] ID.disk_Disk_Failed [.h 7649 a0 0] [T0]=zdU a0 T0:=by kernel_rfl
theorem zik (a0:Nat) (T0:Tb):za0 [.h 7649 a0 0] [T0]=zdU a0 T0:=zkR a0 T0
def zd3:Ann:={ loops:=[],ks:=[(3840,false),(7649,false)] }
noncomputable def zao:List D→List Tb→Option Ans:=denS Try.prog (zaB [(ID.bench_Bench_is,(.st [] [0] [(3840,false)] zan)),(ID.disk_Disk_Failed,(.st [] [0] [(7649,false)] za0))]) zd3 [0] ID.bench_Bench_Failed
theorem zgz:za5 Try.prog ID.bench_Bench_Failed (.st [] [0] [(3840,false),(7649,false)] zao):=zbi (zaE [zdD,zij]) zbz ⟨Try.f41,by kernel_rfl,by kernel_rfl,by kernel_rfl⟩
noncomputable def zdV:Fact Try.prog:=⟨ID.bench_Bench_Failed,(.st [] [0] [(3840,false),(7649,false)] zao),zgz⟩
noncomputable def zdl (zan:List D→List Tb→Option Ans) (za0:List D→List Tb→Option Ans) (a0:Nat) (a1:Int) (T0:Tb) (T1:Tb):Option Ans:=
  zar (zan [D.h (3840:Nat) a0 (0:Nat),D.int IntKind.i64 a1] [T0]) fun r1=>
  nilK r1.outs <|
  nilK r1.tbs <|
  asB r1.r fun b2=>
  brK b2
    (getK T0 a0 fun d3=>
    getK d3 ((3:Nat)) fun d4=>
    zbd d4 fun l5=>
    getK T0 a0 fun d6=>
    getK d6 ((3:Nat)) fun d7=>
    zbd d7 fun l8=>
    sif ((0:Int)≤a1) <|
    sif (Int.toNat a1 < List.length l5) <|
    getK T0 a0 fun d9=>
    getK d9 ((3:Nat)) fun d10=>
    zbd d10 fun l11=>
    getK l11 ((0:Nat)+Int.toNat a1) fun d12=>
    sif (D.isAgg d12=false) <|
    sif (D.width d12=(1:Nat)) <|
    sif (D.cell d12=true) <|
    zar (za0 [d12] [T1]) fun r13=>
    nilK r13.outs <|
    nilK r13.tbs <|
    asB r13.r fun b14=>
    some (Ans.mk (D.bool b14) [] []))
    (some (Ans.mk (D.bool false) [] []))
theorem zjf (zan:List D→List Tb→Option Ans) (za0:List D→List Tb→Option Ans) (a0:Nat) (a1:Int) (T0:Tb) (T1:Tb):denS Try.prog (zaB [(ID.bench_Bench_is,(.st [] [0] [(3840,false)] zan)),(ID.disk_Disk_Failed,(.st [] [0] [(7649,false)] za0))]) zd3 [0] ID.bench_Bench_Failed [.h 3840 a0 0,.int .i64 a1] [T0,T1]=zdl zan za0 a0 a1 T0 T1:=by kernel_rfl
theorem zg7 (a0:Nat) (a1:Int) (T0:Tb) (T1:Tb):zao [.h 3840 a0 0,.int .i64 a1] [T0,T1]=zdl zan za0 a0 a1 T0 T1:=zjf zan za0 a0 a1 T0 T1
def zkS:Ann:={ loops:=[],ks:=[(3840,false),(7649,false)] }
noncomputable def zaM:List D→List Tb→Option Ans:=denS Try.prog (zaB [(ID.bench_Bench_Len,(.st [] [0] [(3840,false)] zak)),(ID.bench_Bench_Failed,(.st [] [0] [(3840,false),(7649,false)] zao))]) zkS [0] ID.stripe_up
theorem zn8:za5 Try.prog ID.stripe_up (.st [] [0] [(3840,false),(7649,false)] zaM):=zbi (zaE [zeK,zdV]) zbz ⟨Try.f70,by kernel_rfl,by kernel_rfl,by kernel_rfl⟩
noncomputable def zoA:Fact Try.prog:=⟨ID.stripe_up,(.st [] [0] [(3840,false),(7649,false)] zaM),zn8⟩
noncomputable def zjZ (zak:List D→List Tb→Option Ans) (zao:List D→List Tb→Option Ans) (a0:Nat) (a1:List D) (a2:Int) (T0:Tb) (T1:Tb):Option Ans:=
  zar (zak [D.h (3840:Nat) a0 (0:Nat)] [T0]) fun r1=>
  nilK r1.outs <|
  nilK r1.tbs <|
  asI IntKind.i64 r1.r fun i2=>
  brK (decide (a2 < i2))
    (brK (decide (a2 < (↑(List.length a1):Int)))
      (sif ((0:Int)≤a2) <|
      getK a1 (Int.toNat a2) fun d3=>
      asB d3 fun b4=>
      brK b4
        (zar (zao [D.h (3840:Nat) a0 (0:Nat),D.int IntKind.i64 a2] [T0,T1]) fun r5=>
        nilK r5.outs <|
        nilK r5.tbs <|
        asB r5.r fun b6=>
        some (Ans.mk (D.bool !b6) [] []))
        (some (Ans.mk (D.bool false) [] [])))
      (some (Ans.mk (D.bool false) [] [])))
    (some (Ans.mk (D.bool false) [] []))
theorem ztp (zak:List D→List Tb→Option Ans) (zao:List D→List Tb→Option Ans) (tga1:Tag) (a0:Nat) (a1:List D) (a2:Int) (T0:Tb) (T1:Tb):denS Try.prog (zaB [(ID.bench_Bench_Len,(.st [] [0] [(3840,false)] zak)),(ID.bench_Bench_Failed,(.st [] [0] [(3840,false),(7649,false)] zao))]) zkS [0] ID.stripe_up [.h 3840 a0 0,.sl tga1 a1,.int .i64 a2] [T0,T1]=zjZ zak zao a0 (D.lentL a1) a2 T0 T1:=by kernel_rfl
theorem zoB (tga1:Tag) (a0:Nat) (a1:List D) (a2:Int) (T0:Tb) (T1:Tb):zaM [.h 3840 a0 0,.sl tga1 a1,.int .i64 a2] [T0,T1]=zjZ zak zao a0 (D.lentL a1) a2 T0 T1:=ztp zak zao tga1 a0 a1 a2 T0 T1
def zfn:Ann:={ loops:=[],ks:=[(3840,false)] }
noncomputable def zal:List D→List Tb→Option Ans:=denS Try.prog (zaB [(ID.bench_Bench_is,(.st [] [0] [(3840,false)] zan))]) zfn [0] ID.bench_Bench_may
theorem zil:za5 Try.prog ID.bench_Bench_may (.st [] [0] [(3840,false)] zal):=zbi (zaE [zdD]) zbz ⟨Try.f85,by kernel_rfl,by kernel_rfl,by kernel_rfl⟩
noncomputable def zdm:Fact Try.prog:=⟨ID.bench_Bench_may,(.st [] [0] [(3840,false)] zal),zil⟩
noncomputable def zed (zan:List D→List Tb→Option Ans) (a0:Nat) (a1:Int) (T0:Tb):Option Ans:=
  zar (zan [D.h (3840:Nat) a0 (0:Nat),D.int IntKind.i64 a1] [T0]) fun r1=>
  nilK r1.outs <|
  nilK r1.tbs <|
  asB r1.r fun b2=>
  brK (!b2)
    (some (Ans.mk (D.int IntKind.i64 (1:Int)) [] []))
    (getK T0 a0 fun d3=>
    getK d3 ((2:Nat)) fun d4=>
    asB d4 fun b5=>
    brK b5
      (some (Ans.mk (D.int IntKind.i64 (6:Int)) [] []))
      (some (Ans.mk (D.int IntKind.i64 (0:Int)) [] [])))
theorem zlH (zan:List D→List Tb→Option Ans) (a0:Nat) (a1:Int) (T0:Tb):denS Try.prog (zaB [(ID.bench_Bench_is,(.st [] [0] [(3840,false)] zan))]) zfn [0] ID.bench_Bench_may [.h 3840 a0 0,.int .i64 a1] [T0]=zed zan a0 a1 T0:=by kernel_rfl
theorem zjg (a0:Nat) (a1:Int) (T0:Tb):zal [.h 3840 a0 0,.int .i64 a1] [T0]=zed zan a0 a1 T0:=zlH zan a0 a1 T0
def zgA:Ann:={ loops:=[],ks:=[(7649,false)] }
noncomputable def zaH:List D→List Tb→Option Ans:=denS Try.prog (zaB []) zgA [0] ID.disk_Disk_may
theorem zj0:za5 Try.prog ID.disk_Disk_may (.st [] [0] [(7649,false)] zaH):=zbi (zaE []) zbz ⟨Try.f118,by kernel_rfl,by kernel_rfl,by kernel_rfl⟩
noncomputable def zfT:Fact Try.prog:=⟨ID.disk_Disk_may,(.st [] [0] [(7649,false)] zaH),zj0⟩
noncomputable def zfo (a0:Nat) (a1:Int) (T0:Tb):Option Ans:=
  getK T0 a0 fun d1=>
  getK d1 ((1665:Nat)) fun d2=>
  asB d2 fun b3=>
  brK b3
    (some (Ans.mk (D.int IntKind.i64 (5:Int)) [] []))
    (brK (decide (a1 < (0:Int)))
      (some (Ans.mk (D.int IntKind.i64 (4:Int)) [] []))
      (brK (decide (a1≥(52:Int)))
        (some (Ans.mk (D.int IntKind.i64 (4:Int)) [] []))
        (some (Ans.mk (D.int IntKind.i64 (0:Int)) [] []))))
theorem zn9 (a0:Nat) (a1:Int) (T0:Tb):denS Try.prog (zaB []) zgA [0] ID.disk_Disk_may [.h 7649 a0 0,.int .i64 a1] [T0]=zfo a0 a1 T0:=by kernel_rfl
theorem zkT (a0:Nat) (a1:Int) (T0:Tb):zaH [.h 7649 a0 0,.int .i64 a1] [T0]=zfo a0 a1 T0:=zn9 a0 a1 T0
def zdi:Ann:={ loops:=[] }
noncomputable def zag:List D→Option D:=denE Try.prog (zaB []) zdi [1] ID.slices_Clone_byte_byte
theorem zeY:za5 Try.prog ID.slices_Clone_byte_byte (.pure [1] zag):=zpt (zaE []) zbz ⟨Try.f109,by kernel_rfl,by kernel_rfl,by kernel_rfl⟩
noncomputable def zc4:Fact Try.prog:=⟨ID.slices_Clone_byte_byte,(.pure [1] zag),zeY⟩
noncomputable def zcw (a0:D) (b0:List D):Option D:=
  sif (List.length (a0::b0)≤(4294967296:Nat)) <|
  sif (zdq (1:Nat) (a0::b0)=true) <|
  sif (List.length (a0::b0)=List.length (a0::b0)) <|
  sif (List.all (a0::b0) D.free=true) <|
  some (D.sl Tag.own (a0::b0))
theorem zgB (tga0:Tag) (a0:D) (b0:List D):denE Try.prog (zaB []) zdi [1] ID.slices_Clone_byte_byte [.sl tga0 (a0::b0)]=zcw (D.lent a0) (D.lentL b0):=by kernel_rfl
theorem zfp (tga0:Tag) (a0:D) (b0:List D):zag [.sl tga0 (a0::b0)]=zcw (D.lent a0) (D.lentL b0):=zgB tga0 a0 b0
theorem zeZ (tg:Tag):zag [.sl tg []]=some (.sl .own []):=(zmj (some (.sl .own [])))
def zfU:Ann:={ loops:=[(1,[.dead,.val (.cell (.int .i64)),.dead,.dead,.dead,.dead,.dead,.box true [(.arr 32)],.dead,.dead,.dead,.dead,.dead,.dead,.dead,.dead,.dead,.dead,.dead,.dead,.dead,.dead,.dead,.dead,.dead,.view 7649 1664,.val (.cell (.int .i64)),.val (.cell (.int .i64))])],ks:=[(7649,false)] }
noncomputable def zbg:List D→List Tb→Option Ans:=denS Try.prog (zaB [(ID.disk_Disk_may,(.st [] [0] [(7649,false)] zaH)),(ID.slices_Clone_byte_byte,(.pure [1] zag))]) zfU [1,0] ID.disk_Disk_Read
theorem zjh:za5 Try.prog ID.disk_Disk_Read (.st [] [1,0] [(7649,false)] zbg):=zbi (zaE [zfT,zc4]) zbz ⟨Try.f86,by kernel_rfl,by kernel_rfl,by kernel_rfl⟩
noncomputable def zj1:Fact Try.prog:=⟨ID.disk_Disk_Read,(.st [] [1,0] [(7649,false)] zbg),zjh⟩
noncomputable def zeE (zaH:List D→List Tb→Option Ans) (zag:List D→Option D) (a0:Nat) (a1:Int) (T0:Tb):Option Ans:=
  zar (zaH [D.h (7649:Nat) a0 (0:Nat),D.int IntKind.i64 a1] [T0]) fun r1=>
  nilK r1.outs <|
  nilK r1.tbs <|
  asI IntKind.i64 r1.r fun i2=>
  brK (i2 != (0:Int))
    (some (Ans.mk (D.tup [D.sl Tag.own [],D.int IntKind.i64 i2]) [] []))
    (sif ((0:Int)≤a1) <|
    sif (Int.toNat a1 < (52:Nat)) <|
    getK T0 a0 fun d3=>
    sif ((0:Nat)+Int.toNat a1*(32:Nat)+(32:Nat)≤List.length d3) <|
    sif (zgV (List.take (32:Nat) (List.drop ((0:Nat)+Int.toNat a1*(32:Nat)) d3))=true) <|
    sif (List.length (List.take (32:Nat) (List.drop ((0:Nat)+Int.toNat a1*(32:Nat)) d3))=(32:Nat)) <|
    sif (List.length (List.take (32:Nat) (List.drop ((0:Nat)+Int.toNat a1*(32:Nat)) d3))=(32:Nat)) <|
    getK T0 a0 fun d4=>
    getK d4 ((1664:Nat)) fun d5=>
    zbd d5 fun l6=>
    getK T0 a0 fun d7=>
    getK d7 ((1664:Nat)) fun d8=>
    zbd d8 fun l9=>
    sif ((0:Nat)+List.length l6≤List.length l9) <|
    zau ([Lf.arr (32)]) (List.take (32:Nat) (List.drop ((0:Nat)+Int.toNat a1*(32:Nat)) d3)) fun c10=>
    zcR (α:=(Int×(List D×PUnit)×(Nat×Nat×Nat)×Int×Int×PUnit)×List (List D)×PUnit) (fun again11 ((i12,((l13,_),((x14,(x15,x16)),(i17,(i18,_))))),(U19,_))=>
      brK (decide (i18 < i17))
        (getK U19 x14 fun d20=>
        getK d20 ((1664:Nat)) fun d21=>
        zbd d21 fun l22=>
        sif ((0:Int)≤i18) <|
        sif (Int.toNat i18 < x16) <|
        getK U19 x14 fun d23=>
        getK d23 ((1664:Nat)) fun d24=>
        zbd d24 fun l25=>
        getK l25 (x15+Int.toNat i18) fun d26=>
        asAgg d26 fun cs27=>
        zau ([Lf.int IntKind.i64,Lf.arr (32)]) cs27 fun c28=>
        sif (D.width (D.agg ([D.int IntKind.i64 c28.fst]++(c28.snd.fst++[])))=(33:Nat)) <|
        sif (List.length ([D.int IntKind.i64 c28.fst]++(c28.snd.fst++[]))=(33:Nat)) <|
        brK (c28.fst == i12)
          (sif ((33:Nat)≤List.length ([D.int IntKind.i64 c28.fst]++(c28.snd.fst++[]))) <|
          sif (List.length (List.take (32:Nat) (List.drop (1:Nat) ([D.int IntKind.i64 c28.fst]++(c28.snd.fst++[]))))=(32:Nat)) <|
          sif (List.length (List.take (32:Nat) (List.drop (1:Nat) ([D.int IntKind.i64 c28.fst]++(c28.snd.fst++[]))))=(32:Nat)) <|
          sif ((32:Nat)≤List.length (l13++[])) <|
          letN (IntKind.wrap IntKind.i64 (i18+(1:Int))) fun n29=>
          zau ([Lf.arr (32)]) (spl (0:Nat) (32:Nat) (l13++[]) (List.take (32:Nat) (List.drop (1:Nat) ([D.int IntKind.i64 c28.fst]++(c28.snd.fst++[]))))) fun c30=>
          again11 (((i12,c30,(x14,x15,x16),i17,n29,PUnit.unit),U19,PUnit.unit)))
          (letN (IntKind.wrap IntKind.i64 (i18+(1:Int))) fun n31=>
          zau ([Lf.arr (32)]) (l13++[]) fun c32=>
          again11 (((i12,c32,(x14,x15,x16),i17,n31,PUnit.unit),U19,PUnit.unit))))
        (sif ((32:Nat)≤List.length (l13++[])) <|
        sif ((32:Nat)≤List.length (l13++[])) <|
        zar (zag [D.sl Tag.lent (cut (0:Nat) (32:Nat) (l13++[]))]) fun r33=>
        zbd r33 fun l34=>
        sif (List.length l34=List.length l34) <|
        sif (List.all l34 D.free=true) <|
        some (Ans.mk (D.tup [D.sl Tag.own l34,D.int IntKind.i64 (0:Int)]) [] [])))
      (((a1,c10,(a0,(0:Nat),List.length l6),(↑(List.length l6):Int),(0:Int),PUnit.unit),T0,PUnit.unit)))
theorem zmC (zaH:List D→List Tb→Option Ans) (zag:List D→Option D) (a0:Nat) (a1:Int) (T0:Tb):denS Try.prog (zaB [(ID.disk_Disk_may,(.st [] [0] [(7649,false)] zaH)),(ID.slices_Clone_byte_byte,(.pure [1] zag))]) zfU [1,0] ID.disk_Disk_Read [.h 7649 a0 0,.int .i64 a1] [T0]=zeE zaH zag a0 a1 T0:=by kernel_rfl
theorem zj2 (a0:Nat) (a1:Int) (T0:Tb):zbg [.h 7649 a0 0,.int .i64 a1] [T0]=zeE zaH zag a0 a1 T0:=zmC zaH zag a0 a1 T0
def zeM:Ann:={ loops:=[],ks:=[(3840,false),(7649,false)] }
noncomputable def za1:List D→List Tb→Option Ans:=denS Try.prog (zaB [(ID.bench_Bench_may,(.st [] [0] [(3840,false)] zal)),(ID.disk_Disk_Read,(.st [] [1,0] [(7649,false)] zbg))]) zeM [1,0] ID.bench_Bench_Read
theorem zhD:za5 Try.prog ID.bench_Bench_Read (.st [] [1,0] [(3840,false),(7649,false)] za1):=zbi (zaE [zdm,zj1]) zbz ⟨Try.f42,by kernel_rfl,by kernel_rfl,by kernel_rfl⟩
noncomputable def zim:Fact Try.prog:=⟨ID.bench_Bench_Read,(.st [] [1,0] [(3840,false),(7649,false)] za1),zhD⟩
noncomputable def zdW (zal:List D→List Tb→Option Ans) (zbg:List D→List Tb→Option Ans) (a0:Nat) (a1:Int) (a2:Int) (T0:Tb) (T1:Tb):Option Ans:=
  zar (zal [D.h (3840:Nat) a0 (0:Nat),D.int IntKind.i64 a1] [T0]) fun r1=>
  nilK r1.outs <|
  nilK r1.tbs <|
  asI IntKind.i64 r1.r fun i2=>
  brK (i2 != (0:Int))
    (some (Ans.mk (D.tup [D.sl Tag.own [],D.int IntKind.i64 i2]) [] []))
    (getK T0 a0 fun d3=>
    getK d3 ((3:Nat)) fun d4=>
    zbd d4 fun l5=>
    getK T0 a0 fun d6=>
    getK d6 ((3:Nat)) fun d7=>
    zbd d7 fun l8=>
    sif ((0:Int)≤a1) <|
    sif (Int.toNat a1 < List.length l5) <|
    getK T0 a0 fun d9=>
    getK d9 ((3:Nat)) fun d10=>
    zbd d10 fun l11=>
    getK l11 ((0:Nat)+Int.toNat a1) fun d12=>
    sif (D.isAgg d12=false) <|
    sif (D.width d12=(1:Nat)) <|
    sif (D.cell d12=true) <|
    zar (zbg [d12,D.int IntKind.i64 a2] [T1]) fun r13=>
    nilK r13.outs <|
    nilK r13.tbs <|
    zeq r13.r fun ts14=>
    zau ([Lf.any,Lf.any]) ts14 fun c15=>
    zbd c15.fst fun l16=>
    asI IntKind.i64 c15.snd.fst fun i17=>
    sif (List.length l16=List.length l16) <|
    sif (List.all l16 D.free=true) <|
    some (Ans.mk (D.tup [D.sl Tag.own l16,D.int IntKind.i64 i17]) [] []))
theorem zkU (zal:List D→List Tb→Option Ans) (zbg:List D→List Tb→Option Ans) (a0:Nat) (a1:Int) (a2:Int) (T0:Tb) (T1:Tb):denS Try.prog (zaB [(ID.bench_Bench_may,(.st [] [0] [(3840,false)] zal)),(ID.disk_Disk_Read,(.st [] [1,0] [(7649,false)] zbg))]) zeM [1,0] ID.bench_Bench_Read [.h 3840 a0 0,.int .i64 a1,.int .i64 a2] [T0,T1]=zdW zal zbg a0 a1 a2 T0 T1:=by kernel_rfl
theorem zin (a0:Nat) (a1:Int) (a2:Int) (T0:Tb) (T1:Tb):za1 [.h 3840 a0 0,.int .i64 a1,.int .i64 a2] [T0,T1]=zdW zal zbg a0 a1 a2 T0 T1:=zkU zal zbg a0 a1 a2 T0 T1
def zpC:Ann:={ loops:=[] }
noncomputable def zb3:List D→Option D:=denP Try.prog (zaB [(ID.geom_Check,(.pure [0] zaf))]) zpC [0] ID.row_in
theorem zsi:za5 Try.prog ID.row_in (.pure [0] zb3):=zaA (zaE [zcv]) zbz ⟨Try.f102,by kernel_rfl,by kernel_rfl,by kernel_rfl⟩
noncomputable def zoa:Fact Try.prog:=⟨ID.row_in,(.pure [0] zb3),zsi⟩
noncomputable def zqJ (zaf:List D→Option D) (a0_0:Int) (a0_1:Int) (a0_2:Int) (a1:Int):Option D:=
  zar (zaf [D.agg [D.int IntKind.i64 a0_0,D.int IntKind.i64 a0_1,D.int IntKind.i64 a0_2]]) fun r1=>
  asI IntKind.i64 r1 fun i2=>
  brK (i2 == (0:Int))
    (brK (decide (a1≥(0:Int)))
      (some (D.bool (decide (a1 < (16:Int)))))
      (some (D.bool false)))
    (some (D.bool false))
theorem zyz (zaf:List D→Option D) (a0_0:Int) (a0_1:Int) (a0_2:Int) (a1:Int):denP Try.prog (zaB [(ID.geom_Check,(.pure [0] zaf))]) zpC [0] ID.row_in [.agg [.int .i64 a0_0,.int .i64 a0_1,.int .i64 a0_2],.int .i64 a1]=zqJ zaf a0_0 a0_1 a0_2 a1:=by kernel_rfl
theorem ztq (a0_0:Int) (a0_1:Int) (a0_2:Int) (a1:Int):zb3 [.agg [.int .i64 a0_0,.int .i64 a0_1,.int .i64 a0_2],.int .i64 a1]=zqJ zaf a0_0 a0_1 a0_2 a1:=zyz zaf a0_0 a0_1 a0_2 a1
def zio:Ann:={ loops:=[] }
noncomputable def zaT:List D→Option D:=denP Try.prog (zaB [(ID.geom_Check,(.pure [0] zaf))]) zio [0] ID.geom_Budget
theorem zlI:za5 Try.prog ID.geom_Budget (.pure [0] zaT):=zaA (zaE [zcv]) zbz ⟨Try.f127,by kernel_rfl,by kernel_rfl,by kernel_rfl⟩
noncomputable def zhn:Fact Try.prog:=⟨ID.geom_Budget,(.pure [0] zaT),zlI⟩
noncomputable def zg8 (zaf:List D→Option D) (a0_0:Int) (a0_1:Int) (a0_2:Int):Option D:=
  zar (zaf [D.agg [D.int IntKind.i64 a0_0,D.int IntKind.i64 a0_1,D.int IntKind.i64 a0_2]]) fun r1=>
  asI IntKind.i64 r1 fun i2=>
  brK (i2 != (0:Int))
    (some (D.int IntKind.i64 (0:Int)))
    (letN (IntKind.wrap IntKind.i64 (a0_0 - (4:Int))) fun n3=>
    some (D.int IntKind.i64 n3))
theorem zqK (zaf:List D→Option D) (a0_0:Int) (a0_1:Int) (a0_2:Int):denP Try.prog (zaB [(ID.geom_Check,(.pure [0] zaf))]) zio [0] ID.geom_Budget [.agg [.int .i64 a0_0,.int .i64 a0_1,.int .i64 a0_2]]=zg8 zaf a0_0 a0_1 a0_2:=by kernel_rfl
theorem zmD (a0_0:Int) (a0_1:Int) (a0_2:Int):zaT [.agg [.int .i64 a0_0,.int .i64 a0_1,.int .i64 a0_2]]=zg8 zaf a0_0 a0_1 a0_2:=zqK zaf a0_0 a0_1 a0_2
def zjy:Ann:={ loops:=[] }
noncomputable def zaD:List D→Option D:=denP Try.prog (zaB [(ID.geom_Check,(.pure [0] zaf)),(ID.geom_Budget,(.pure [0] zaT))]) zjy [0] ID.geom_Width
theorem zmE:za5 Try.prog ID.geom_Width (.pure [0] zaD):=zaA (zaE [zcv,zhn]) zbz ⟨Try.f103,by kernel_rfl,by kernel_rfl,by kernel_rfl⟩
noncomputable def zfq:Fact Try.prog:=⟨ID.geom_Width,(.pure [0] zaD),zmE⟩
noncomputable def ziq (zaf:List D→Option D) (zaT:List D→Option D) (a0_0:Int) (a0_1:Int) (a0_2:Int):Option D:=
  zar (zaf [D.agg [D.int IntKind.i64 a0_0,D.int IntKind.i64 a0_1,D.int IntKind.i64 a0_2]]) fun r1=>
  asI IntKind.i64 r1 fun i2=>
  brK (i2 != (0:Int))
    (some (D.int IntKind.i64 (0:Int)))
    (zar (zaT [D.agg [D.int IntKind.i64 a0_0,D.int IntKind.i64 a0_1,D.int IntKind.i64 a0_2]]) fun r3=>
    asI IntKind.i64 r3 fun i4=>
    letN (IntKind.wrap IntKind.i64 (a0_1 - i4)) fun n5=>
    some (D.int IntKind.i64 n5))
theorem zsj (zaf:List D→Option D) (zaT:List D→Option D) (a0_0:Int) (a0_1:Int) (a0_2:Int):denP Try.prog (zaB [(ID.geom_Check,(.pure [0] zaf)),(ID.geom_Budget,(.pure [0] zaT))]) zjy [0] ID.geom_Width [.agg [.int .i64 a0_0,.int .i64 a0_1,.int .i64 a0_2]]=ziq zaf zaT a0_0 a0_1 a0_2:=by kernel_rfl
theorem zob (a0_0:Int) (a0_1:Int) (a0_2:Int):zaD [.agg [.int .i64 a0_0,.int .i64 a0_1,.int .i64 a0_2]]=ziq zaf zaT a0_0 a0_1 a0_2:=zsj zaf zaT a0_0 a0_1 a0_2
def zmp:Ann:={ loops:=[] }
noncomputable def zbr:List D→Option D:=denP Try.prog (zaB [(ID.geom_Check,(.pure [0] zaf))]) zmp [0] ID.place_in
theorem zoC:za5 Try.prog ID.place_in (.pure [0] zbr):=zaA (zaE [zcv]) zbz ⟨Try.f106,by kernel_rfl,by kernel_rfl,by kernel_rfl⟩
noncomputable def zkV:Fact Try.prog:=⟨ID.place_in,(.pure [0] zbr),zoC⟩
noncomputable def zlJ (zaf:List D→Option D) (a0_0:Int) (a0_1:Int) (a0_2:Int) (a1:Int):Option D:=
  zar (zaf [D.agg [D.int IntKind.i64 a0_0,D.int IntKind.i64 a0_1,D.int IntKind.i64 a0_2]]) fun r1=>
  asI IntKind.i64 r1 fun i2=>
  brK (i2 == (0:Int))
    (brK (decide (a1≥(0:Int)))
      (some (D.bool (decide (a1 < (16:Int)))))
      (some (D.bool false)))
    (some (D.bool false))
theorem zvn (zaf:List D→Option D) (a0_0:Int) (a0_1:Int) (a0_2:Int) (a1:Int):denP Try.prog (zaB [(ID.geom_Check,(.pure [0] zaf))]) zmp [0] ID.place_in [.agg [.int .i64 a0_0,.int .i64 a0_1,.int .i64 a0_2],.int .i64 a1]=zlJ zaf a0_0 a0_1 a0_2 a1:=by kernel_rfl
theorem zqL (a0_0:Int) (a0_1:Int) (a0_2:Int) (a1:Int):zbr [.agg [.int .i64 a0_0,.int .i64 a0_1,.int .i64 a0_2],.int .i64 a1]=zlJ zaf a0_0 a0_1 a0_2 a1:=zvn zaf a0_0 a0_1 a0_2 a1
def zho:Ann:={ loops:=[] }
noncomputable def zax:List D→Option D:=denP Try.prog (zaB [(ID.place_in,(.pure [0] zbr))]) zho [0,0] ID.place_Parity
theorem zkW:za5 Try.prog ID.place_Parity (.pure [0,0] zax):=zaA (zaE [zkV]) zbz ⟨Try.f88,by kernel_rfl,by kernel_rfl,by kernel_rfl⟩
noncomputable def zee:Fact Try.prog:=⟨ID.place_Parity,(.pure [0,0] zax),zkW⟩
noncomputable def zf5 (zbr:List D→Option D) (a0_0:Int) (a0_1:Int) (a0_2:Int) (a1:Int):Option D:=
  zar (zbr [D.agg [D.int IntKind.i64 a0_0,D.int IntKind.i64 a0_1,D.int IntKind.i64 a0_2],D.int IntKind.i64 a1]) fun r1=>
  asB r1 fun b2=>
  brK (!b2)
    (some (D.tup [D.int IntKind.i64 (-1:Int),D.int IntKind.i64 (-1:Int)]))
    (letN (IntKind.wrap IntKind.i64 (a0_1 - (1:Int))) fun n3=>
    sif (a0_2≠(0:Int)) <|
    letN (IntKind.wrap IntKind.i64 (Int.tdiv a1 a0_2)) fun n4=>
    sif (a0_1≠(0:Int)) <|
    letN (Int.tmod n4 a0_1) fun n5=>
    letN (IntKind.wrap IntKind.i64 (n3 - n5)) fun n6=>
    brK (a0_0 == (5:Int))
      (some (D.tup [D.int IntKind.i64 n6,D.int IntKind.i64 (-1:Int)]))
      (letN (IntKind.wrap IntKind.i64 (n6+(1:Int))) fun n7=>
      sif (a0_1≠(0:Int)) <|
      letN (Int.tmod n7 a0_1) fun n8=>
      some (D.tup [D.int IntKind.i64 n6,D.int IntKind.i64 n8])))
theorem zoD (zbr:List D→Option D) (a0_0:Int) (a0_1:Int) (a0_2:Int) (a1:Int):denP Try.prog (zaB [(ID.place_in,(.pure [0] zbr))]) zho [0,0] ID.place_Parity [.agg [.int .i64 a0_0,.int .i64 a0_1,.int .i64 a0_2],.int .i64 a1]=zf5 zbr a0_0 a0_1 a0_2 a1:=by kernel_rfl
theorem zlK (a0_0:Int) (a0_1:Int) (a0_2:Int) (a1:Int):zax [.agg [.int .i64 a0_0,.int .i64 a0_1,.int .i64 a0_2],.int .i64 a1]=zf5 zbr a0_0 a0_1 a0_2 a1:=zoD zbr a0_0 a0_1 a0_2 a1
def zjz:Ann:={ loops:=[] }
noncomputable def zaX:List D→Option D:=denP Try.prog (zaB [(ID.place_in,(.pure [0] zbr)),(ID.geom_Width,(.pure [0] zaD)),(ID.place_Parity,(.pure [0,0] zax)),(ID.geom_Budget,(.pure [0] zaT))]) zjz [0] ID.place_Disk
theorem zmF:za5 Try.prog ID.place_Disk (.pure [0] zaX):=zaA (zaE [zkV,zfq,zee,zhn]) zbz ⟨Try.f104,by kernel_rfl,by kernel_rfl,by kernel_rfl⟩
noncomputable def zir:Fact Try.prog:=⟨ID.place_Disk,(.pure [0] zaX),zmF⟩
noncomputable def zis (zbr:List D→Option D) (zaD:List D→Option D) (zax:List D→Option D) (zaT:List D→Option D) (a0_0:Int) (a0_1:Int) (a0_2:Int) (a1:Int) (a2:Int):Option D:=
  zar (zbr [D.agg [D.int IntKind.i64 a0_0,D.int IntKind.i64 a0_1,D.int IntKind.i64 a0_2],D.int IntKind.i64 a1]) fun r1=>
  asB r1 fun b2=>
  brK (!b2)
    (some (D.int IntKind.i64 (-1:Int)))
    (brK (decide (a2 < (0:Int)))
      (some (D.int IntKind.i64 (-1:Int)))
      (zar (zaD [D.agg [D.int IntKind.i64 a0_0,D.int IntKind.i64 a0_1,D.int IntKind.i64 a0_2]]) fun r3=>
      asI IntKind.i64 r3 fun i4=>
      brK (decide (a2≥i4))
        (some (D.int IntKind.i64 (-1:Int)))
        (zar (zax [D.agg [D.int IntKind.i64 a0_0,D.int IntKind.i64 a0_1,D.int IntKind.i64 a0_2],D.int IntKind.i64 a1]) fun r5=>
        zeq r5 fun ts6=>
        zau ([Lf.any,Lf.any]) ts6 fun c7=>
        asI IntKind.i64 c7.fst fun i8=>
        asI IntKind.i64 c7.snd.fst fun i9=>
        zar (zaT [D.agg [D.int IntKind.i64 a0_0,D.int IntKind.i64 a0_1,D.int IntKind.i64 a0_2]]) fun r10=>
        asI IntKind.i64 r10 fun i11=>
        letN (IntKind.wrap IntKind.i64 (i8+i11)) fun n12=>
        letN (IntKind.wrap IntKind.i64 (n12+a2)) fun n13=>
        sif (a0_1≠(0:Int)) <|
        letN (Int.tmod n13 a0_1) fun n14=>
        some (D.int IntKind.i64 n14))))
theorem zsk (zbr:List D→Option D) (zaD:List D→Option D) (zax:List D→Option D) (zaT:List D→Option D) (a0_0:Int) (a0_1:Int) (a0_2:Int) (a1:Int) (a2:Int):denP Try.prog (zaB [(ID.place_in,(.pure [0] zbr)),(ID.geom_Width,(.pure [0] zaD)),(ID.place_Parity,(.pure [0,0] zax)),(ID.geom_Budget,(.pure [0] zaT))]) zjz [0] ID.place_Disk [.agg [.int .i64 a0_0,.int .i64 a0_1,.int .i64 a0_2],.int .i64 a1,.int .i64 a2]=zis zbr zaD zax zaT a0_0 a0_1 a0_2 a1 a2:=by kernel_rfl
theorem zoc (a0_0:Int) (a0_1:Int) (a0_2:Int) (a1:Int) (a2:Int):zaX [.agg [.int .i64 a0_0,.int .i64 a0_1,.int .i64 a0_2],.int .i64 a1,.int .i64 a2]=zis zbr zaD zax zaT a0_0 a0_1 a0_2 a1 a2:=zsk zbr zaD zax zaT a0_0 a0_1 a0_2 a1 a2
def zgC:Ann:={ loops:=[(0,[.dead,.dead,.dead,.own 1,.dead,.dead,.val (.cell .lent),.val (.cell (.int .i64)),.val (.cell (.int .i64))])] }
noncomputable def zbb:List D→Option D:=denP Try.prog (zaB []) zgC [1] ID.erase_Missing
theorem zj3:za5 Try.prog ID.erase_Missing (.pure [1] zbb):=zaA (zaE []) zbz ⟨Try.f128,by kernel_rfl,by kernel_rfl,by kernel_rfl⟩
noncomputable def zkX:Fact Try.prog:=⟨ID.erase_Missing,(.pure [1] zbb),zj3⟩
noncomputable def zfr (a0:List D):Option D:=
  zcR (α:=(List D×List D×Int×Int×PUnit)×PUnit) (fun again1 ((l2,(l3,(i4,(i5,_)))),_)=>
    brK (decide (i5 < i4))
      (sif ((0:Int)≤i5) <|
      getK l3 (Int.toNat i5) fun d6=>
      asSl d6 fun t7 l8=>
      brK ((↑(List.length l8):Int) == (0:Int))
        (sif (List.length l2+(1:Nat)≤(4294967296:Nat)) <|
        sif (List.length l2=List.length l2) <|
        letN (IntKind.wrap IntKind.i64 (i5+(1:Int))) fun n9=>
        sif (List.length l2+(1:Nat)=List.length (l2++[D.int IntKind.i64 i5])) <|
        again1 (((l2++[D.int IntKind.i64 i5],l3,i4,n9,PUnit.unit),PUnit.unit)))
        (letN (IntKind.wrap IntKind.i64 (i5+(1:Int))) fun n10=>
        sif (List.length l2=List.length l2) <|
        again1 (((l2,l3,i4,n10,PUnit.unit),PUnit.unit))))
      (sif (List.length l2=List.length l2) <|
      sif (List.all l2 D.free=true) <|
      some (D.sl Tag.own l2)))
    ((([],a0,(↑(List.length a0):Int),(0:Int),PUnit.unit),PUnit.unit))
theorem zod (tga0:Tag) (a0:List D):denP Try.prog (zaB []) zgC [1] ID.erase_Missing [.sl tga0 a0]=zfr (D.lentL a0):=by kernel_rfl
theorem zkY (tga0:Tag) (a0:List D):zbb [.sl tga0 a0]=zfr (D.lentL a0):=zod tga0 a0
def zhp:Ann:={ loops:=[],hints:=[(1,.at1 (.int .i64))] }
noncomputable def zas:List D→Option D:=denP Try.prog (zaB []) zhp [0] ID.erase_fits_1
theorem zkZ:za5 Try.prog ID.erase_fits_1 (.pure [0] zas):=zaA (zaE []) zbz ⟨Try.f140,by kernel_rfl,by kernel_rfl,by kernel_rfl⟩
noncomputable def zgD:Fact Try.prog:=⟨ID.erase_fits_1,(.pure [0] zas),zkZ⟩
noncomputable def zf6 (a0:List D) (c0:Int):Option D:=
  brK (decide ((↑(List.length a0):Int) > (0:Int)))
    (some (D.bool ((↑(List.length a0):Int) != c0)))
    (some (D.bool false))
theorem zoE (tga0:Tag) (a0:List D) (c0:Int):denP Try.prog (zaB []) zhp [0] ID.erase_fits_1 [.sl tga0 a0,.at_ (.int .i64 c0)]=zf6 (D.lentL a0) c0:=by kernel_rfl
theorem zlL (tga0:Tag) (a0:List D) (c0:Int):zas [.sl tga0 a0,.at_ (.int .i64 c0)]=zf6 (D.lentL a0) c0:=zoE tga0 a0 c0
def zgE:Ann:={ loops:=[] }
noncomputable def zai:List D→Option D:=denP Try.prog (zaB []) zgE [0] ID.row_sectors_1
theorem zj4:za5 Try.prog ID.row_sectors_1 (.pure [0] zai):=zaA (zaE []) zbz ⟨Try.f135,by kernel_rfl,by kernel_rfl,by kernel_rfl⟩
noncomputable def zdX:Fact Try.prog:=⟨ID.row_sectors_1,(.pure [0] zai),zj4⟩
noncomputable def zfs (a0:List D):Option D:=
  some (D.bool ((↑(List.length a0):Int) != (32:Int)))
theorem zoe (tga0:Tag) (a0:List D):denP Try.prog (zaB []) zgE [0] ID.row_sectors_1 [.sl tga0 a0]=zfs (D.lentL a0):=by kernel_rfl
theorem zk0 (tga0:Tag) (a0:List D):zai [.sl tga0 a0]=zfs (D.lentL a0):=zoe tga0 a0
def zb0:List (Nat×Ann):=[(140,{ loops:=[(0,[.val (.cell .lent),.val (.fn1 (140:FuncId) (.int .i64)),.dead,.dead,.dead,.dead,.dead,.val (.cell (.int .i64)),.val (.cell (.int .i64))])] }),(135,{ loops:=[(0,[.val (.cell .lent),.fnc 135,.dead,.dead,.dead,.dead,.dead,.val (.cell (.int .i64)),.val (.cell (.int .i64))])] })]
noncomputable def zad:List D→Option D:=denA Try.prog (zaB [(ID.erase_fits_1,(.pure [0] zas)),(ID.row_sectors_1,(.pure [0] zai))]) zb0 [0] ID.slices_IndexFunc_byte_byte
theorem zd1:za5 Try.prog ID.slices_IndexFunc_byte_byte (.pure [0] zad):=zpu (zaE [zgD,zdX]) zbz ⟨Try.f143,by kernel_rfl,by kernel_rfl,by kernel_rfl⟩
noncomputable def zef:Fact Try.prog:=⟨ID.slices_IndexFunc_byte_byte,(.pure [0] zad),zd1⟩
noncomputable def zbM (zas:List D→Option D) (zai:List D→Option D) (a0:List D) (c0:Int):Option D:=
  zcR (α:=(List D×Int×Int×Int×PUnit)×PUnit) (fun again1 ((l2,(i3,(i4,(i5,_)))),_)=>
    brK (decide (i5 < i4))
      (sif ((0:Int)≤i5) <|
      getK l2 (Int.toNat i5) fun d6=>
      asSl d6 fun t7 l8=>
      zar (zas [D.sl t7 l8,D.at_ (D.int IntKind.i64 i3)]) fun r9=>
      asB r9 fun b10=>
      brK b10
        (some (D.int IntKind.i64 i5))
        (letN (IntKind.wrap IntKind.i64 (i5+(1:Int))) fun n11=>
        again1 (((l2,i3,i4,n11,PUnit.unit),PUnit.unit))))
      (some (D.int IntKind.i64 (-1:Int))))
    (((a0,c0,(↑(List.length a0):Int),(0:Int),PUnit.unit),PUnit.unit))
theorem zdM (zas:List D→Option D) (zai:List D→Option D) (tga0:Tag) (a0:List D) (c0:Int):denA Try.prog (zaB [(ID.erase_fits_1,(.pure [0] zas)),(ID.row_sectors_1,(.pure [0] zai))]) zb0 [0] ID.slices_IndexFunc_byte_byte [.sl tga0 a0,.fn 140 [] [.at_ (.int .i64 c0)]]=zbM zas zai (D.lentL a0) c0:=by kernel_rfl
theorem zdn (tga0:Tag) (a0:List D) (c0:Int):zad [.sl tga0 a0,.fn 140 [] [.at_ (.int .i64 c0)]]=zbM zas zai (D.lentL a0) c0:=zdM zas zai tga0 a0 c0
noncomputable def zbB (zas:List D→Option D) (zai:List D→Option D) (a0:List D):Option D:=
  zcR (α:=(List D×Int×Int×PUnit)×PUnit) (fun again1 ((l2,(i3,(i4,_))),_)=>
    brK (decide (i4 < i3))
      (sif ((0:Int)≤i4) <|
      getK l2 (Int.toNat i4) fun d5=>
      asSl d5 fun t6 l7=>
      zar (zai [D.sl t6 l7]) fun r8=>
      asB r8 fun b9=>
      brK b9
        (some (D.int IntKind.i64 i4))
        (letN (IntKind.wrap IntKind.i64 (i4+(1:Int))) fun n10=>
        again1 (((l2,i3,n10,PUnit.unit),PUnit.unit))))
      (some (D.int IntKind.i64 (-1:Int))))
    (((a0,(↑(List.length a0):Int),(0:Int),PUnit.unit),PUnit.unit))
theorem zdo (zas:List D→Option D) (zai:List D→Option D) (tga0:Tag) (a0:List D):denA Try.prog (zaB [(ID.erase_fits_1,(.pure [0] zas)),(ID.row_sectors_1,(.pure [0] zai))]) zb0 [0] ID.slices_IndexFunc_byte_byte [.sl tga0 a0,.fn 135 [] []]=zbB zas zai (D.lentL a0):=by kernel_rfl
theorem zcS (tga0:Tag) (a0:List D):zad [.sl tga0 a0,.fn 135 [] []]=zbB zas zai (D.lentL a0):=zdo zas zai tga0 a0
def zbQ:Ann:={ loops:=[] }
noncomputable def zab:List D→Option D:=denP Try.prog (zaB [(ID.slices_IndexFunc_byte_byte,(.pure [0] zad)),(ID.erase_fits_1,(.pure [0] zas)),(ID.row_sectors_1,(.pure [0] zai))]) zbQ [0] ID.slices_ContainsFunc_byte_byte
theorem zdE:za5 Try.prog ID.slices_ContainsFunc_byte_byte (.pure [0] zab):=zaA (zaE [zef,zgD,zdX]) zbz ⟨Try.f134,by kernel_rfl,by kernel_rfl,by kernel_rfl⟩
noncomputable def zcj:Fact Try.prog:=⟨ID.slices_ContainsFunc_byte_byte,(.pure [0] zab),zdE⟩
noncomputable def zbC (zad:List D→Option D) (zas:List D→Option D) (zai:List D→Option D) (a0:List D) (c0:Int):Option D:=
  zar (zad [D.sl Tag.lent a0,D.fn (140:FuncId) [] [D.at_ (D.int IntKind.i64 c0)]]) fun r1=>
  asI IntKind.i64 r1 fun i2=>
  some (D.bool (decide (i2≥(0:Int))))
theorem zdp (zad:List D→Option D) (zas:List D→Option D) (zai:List D→Option D) (tga0:Tag) (a0:List D) (c0:Int):denP Try.prog (zaB [(ID.slices_IndexFunc_byte_byte,(.pure [0] zad)),(ID.erase_fits_1,(.pure [0] zas)),(ID.row_sectors_1,(.pure [0] zai))]) zbQ [0] ID.slices_ContainsFunc_byte_byte [.sl tga0 a0,.fn 140 [] [.at_ (.int .i64 c0)]]=zbC zad zas zai (D.lentL a0) c0:=by kernel_rfl
theorem zcT (tga0:Tag) (a0:List D) (c0:Int):zab [.sl tga0 a0,.fn 140 [] [.at_ (.int .i64 c0)]]=zbC zad zas zai (D.lentL a0) c0:=zdp zad zas zai tga0 a0 c0
noncomputable def zbq (zad:List D→Option D) (zas:List D→Option D) (zai:List D→Option D) (a0:List D):Option D:=
  zar (zad [D.sl Tag.lent a0,D.fn (135:FuncId) [] []]) fun r1=>
  asI IntKind.i64 r1 fun i2=>
  some (D.bool (decide (i2≥(0:Int))))
theorem zcU (zad:List D→Option D) (zas:List D→Option D) (zai:List D→Option D) (tga0:Tag) (a0:List D):denP Try.prog (zaB [(ID.slices_IndexFunc_byte_byte,(.pure [0] zad)),(ID.erase_fits_1,(.pure [0] zas)),(ID.row_sectors_1,(.pure [0] zai))]) zbQ [0] ID.slices_ContainsFunc_byte_byte [.sl tga0 a0,.fn 135 [] []]=zbq zad zas zai (D.lentL a0):=by kernel_rfl
theorem zcB (tga0:Tag) (a0:List D):zab [.sl tga0 a0,.fn 135 [] []]=zbq zad zas zai (D.lentL a0):=zcU zad zas zai tga0 a0
def zjA:Ann:={ loops:=[] }
noncomputable def zbE:List D→Option D:=denP Try.prog (zaB [(ID.slices_ContainsFunc_byte_byte,(.pure [0] zab))]) zjA [0] ID.erase_fits
theorem zmG:za5 Try.prog ID.erase_fits (.pure [0] zbE):=zaA (zaE [zcj]) zbz ⟨Try.f129,by kernel_rfl,by kernel_rfl,by kernel_rfl⟩
noncomputable def zof:Fact Try.prog:=⟨ID.erase_fits,(.pure [0] zbE),zmG⟩
noncomputable def zit (zab:List D→Option D) (a0:Int) (a1:List D):Option D:=
  zar (zab [D.sl Tag.lent a1,D.fn (140:Nat) [] [D.at_ (D.int IntKind.i64 a0)]]) fun r1=>
  asB r1 fun b2=>
  some (D.bool !b2)
theorem zsl (zab:List D→Option D) (tga1:Tag) (a0:Int) (a1:List D):denP Try.prog (zaB [(ID.slices_ContainsFunc_byte_byte,(.pure [0] zab))]) zjA [0] ID.erase_fits [.int .i64 a0,.sl tga1 a1]=zit zab a0 (D.lentL a1):=by kernel_rfl
theorem zog (tga1:Tag) (a0:Int) (a1:List D):zbE [.int .i64 a0,.sl tga1 a1]=zit zab a0 (D.lentL a1):=zsl zab tga1 a0 a1
def zhq:Ann:={ loops:=[(0,[.val (.cell (.int .i64)),.dead,.dead,.dead,.dead,.own 1,.dead,.dead,.dead,.val (.cell .lent),.val (.cell (.int .i64)),.val (.cell (.int .i64))])] }
noncomputable def zbo:List D→Option D:=denP Try.prog (zaB []) zhq [1] ID.erase_filled
theorem zk1:za5 Try.prog ID.erase_filled (.pure [1] zbo):=zaA (zaE []) zbz ⟨Try.f130,by kernel_rfl,by kernel_rfl,by kernel_rfl⟩
noncomputable def zlM:Fact Try.prog:=⟨ID.erase_filled,(.pure [1] zbo),zk1⟩
noncomputable def zf7 (a0:Int) (a1:List D):Option D:=
  zcR (α:=(Int×List D×List D×Int×Int×PUnit)×PUnit) (fun again1 ((i2,(l3,(l4,(i5,(i6,_))))),_)=>
    brK (decide (i6 < i5))
      (sif ((0:Int)≤i6) <|
      getK l4 (Int.toNat i6) fun d7=>
      asSl d7 fun t8 l9=>
      sif ((0:Int)≤i2) <|
      sif (i2=i2) <|
      sif (i2*(1:Int)≤(140737488355328:Int)) <|
      sif (i2≤(140737488355328:Int)) <|
      sif ((0:Nat)+Int.toNat i2≤List.length (List.replicate (Int.toNat i2) (D.int IntKind.u8 (0:Int)))) <|
      sif (cells l9=true) <|
      sif ((0:Nat)+Int.toNat i2≤List.length ([]++List.take (Int.toNat i2) l9++List.drop ((0:Nat)+List.length (List.take (Int.toNat i2) l9)) (List.replicate (Int.toNat i2) (D.int IntKind.u8 (0:Int))))) <|
      sif (List.length l3+(1:Nat)≤(4294967296:Nat)) <|
      sif (List.length l3=List.length l3) <|
      letN (IntKind.wrap IntKind.i64 (i6+(1:Int))) fun n10=>
      sif (List.length l3+(1:Nat)=List.length (l3++[D.sl Tag.fresh (cut (0:Nat) (Int.toNat i2) ([]++List.take (Int.toNat i2) l9++List.drop ((0:Nat)+List.length (List.take (Int.toNat i2) l9)) (List.replicate (Int.toNat i2) (D.int IntKind.u8 (0:Int)))))])) <|
      again1 (((i2,l3++[D.sl Tag.fresh (cut (0:Nat) (Int.toNat i2) ([]++List.take (Int.toNat i2) l9++List.drop ((0:Nat)+List.length (List.take (Int.toNat i2) l9)) (List.replicate (Int.toNat i2) (D.int IntKind.u8 (0:Int)))))],l4,i5,n10,PUnit.unit),PUnit.unit)))
      (sif (List.length l3=List.length l3) <|
      sif (List.all l3 D.free=true) <|
      some (D.sl Tag.own l3)))
    (((a0,[],a1,(↑(List.length a1):Int),(0:Int),PUnit.unit),PUnit.unit))
theorem zoF (tga1:Tag) (a0:Int) (a1:List D):denP Try.prog (zaB []) zhq [1] ID.erase_filled [.int .i64 a0,.sl tga1 a1]=zf7 a0 (D.lentL a1):=by kernel_rfl
theorem zlN (tga1:Tag) (a0:Int) (a1:List D):zbo [.int .i64 a0,.sl tga1 a1]=zf7 a0 (D.lentL a1):=zoF tga1 a0 a1
def zk2:Ann:={ loops:=[] }
noncomputable def zaK:List D→Option D:=denP Try.prog (zaB []) zk2 [0] ID.gf_double
theorem zoh:za5 Try.prog ID.gf_double (.pure [0] zaK):=zaA (zaE []) zbz ⟨Try.f144,by kernel_rfl,by kernel_rfl,by kernel_rfl⟩
noncomputable def zf8:Fact Try.prog:=⟨ID.gf_double,(.pure [0] zaK),zoh⟩
noncomputable def zj5 (a0:Int):Option D:=
  brK (decide (a0≥(128:Int)))
    (letN (IntKind.wrap IntKind.u8 (a0*(2:Int))) fun n1=>
    letN (bits BinOp.xor IntKind.u8 n1 (29:Int)) fun n2=>
    some (D.int IntKind.u8 n2))
    (letN (IntKind.wrap IntKind.u8 (a0*(2:Int))) fun n3=>
    some (D.int IntKind.u8 n3))
theorem ztr (a0:Int):denP Try.prog (zaB []) zk2 [0] ID.gf_double [.int .u8 a0]=zj5 a0:=by kernel_rfl
theorem zoG (a0:Int):zaK [.int .u8 a0]=zj5 a0:=ztr a0
def zpD:Ann:={ loops:=[(0,[.val (.cell (.int .u8)),.val (.cell (.int .u8)),.dead,.dead,.dead,.val (.cell (.int .u8))])] }
noncomputable def zdv:List D→Option D:=denP Try.prog (zaB [(ID.gf_double,(.pure [0] zaK))]) zpD [0] ID.gf_Mul
theorem zsm:za5 Try.prog ID.gf_Mul (.pure [0] zdv):=zaA (zaE [zf8]) zbz ⟨Try.f146,by kernel_rfl,by kernel_rfl,by kernel_rfl⟩
noncomputable def zts:Fact Try.prog:=⟨ID.gf_Mul,(.pure [0] zdv),zsm⟩
noncomputable def zqM (zaK:List D→Option D) (a0:Int) (a1:Int):Option D:=
  zcR (α:=(Int×Int×Int×PUnit)×PUnit) (fun again1 ((i2,(i3,(i4,_))),_)=>
    brK (decide (i3 > (0:Int)))
      (letN (bits BinOp.and IntKind.u8 i3 (1:Int)) fun n5=>
      brK (n5 == (1:Int))
        (letN (bits BinOp.xor IntKind.u8 i4 i2) fun n6=>
        zar (zaK [D.int IntKind.u8 i2]) fun r7=>
        asI IntKind.u8 r7 fun i8=>
        letN (Int.fdiv i3 (2:Int)) fun n9=>
        again1 (((i8,n9,n6,PUnit.unit),PUnit.unit)))
        (zar (zaK [D.int IntKind.u8 i2]) fun r10=>
        asI IntKind.u8 r10 fun i11=>
        letN (Int.fdiv i3 (2:Int)) fun n12=>
        again1 (((i11,n12,i4,PUnit.unit),PUnit.unit))))
      (some (D.int IntKind.u8 i4)))
    (((a0,a1,(0:Int),PUnit.unit),PUnit.unit))
theorem zyA (zaK:List D→Option D) (a0:Int) (a1:Int):denP Try.prog (zaB [(ID.gf_double,(.pure [0] zaK))]) zpD [0] ID.gf_Mul [.int .u8 a0,.int .u8 a1]=zqM zaK a0 a1:=by kernel_rfl
theorem ztt (a0:Int) (a1:Int):zdv [.int .u8 a0,.int .u8 a1]=zqM zaK a0 a1:=zyA zaK a0 a1
def zjB:Ann:={ loops:=[(0,[.dead,.val (.cell (.int .u8)),.dead,.dead,.dead,.own 1,.dead,.dead,.val (.cell .lent),.val (.cell (.int .i64)),.val (.cell (.int .i64))])] }
noncomputable def zaw:List D→Option D:=denP Try.prog (zaB [(ID.gf_Mul,(.pure [0] zdv))]) zjB [1] ID.synd_Scale
theorem zmH:za5 Try.prog ID.synd_Scale (.pure [1] zaw):=zaA (zaE [zts]) zbz ⟨Try.f142,by kernel_rfl,by kernel_rfl,by kernel_rfl⟩
noncomputable def zft:Fact Try.prog:=⟨ID.synd_Scale,(.pure [1] zaw),zmH⟩
noncomputable def ziu (zdv:List D→Option D) (a0:List D) (a1:Int):Option D:=
  zcR (α:=(Int×List D×List D×Int×Int×PUnit)×PUnit) (fun again1 ((i2,(l3,(l4,(i5,(i6,_))))),_)=>
    brK (decide (i6 < i5))
      (sif ((0:Int)≤i6) <|
      getK l4 (Int.toNat i6) fun d7=>
      asI IntKind.u8 d7 fun i8=>
      zar (zdv [D.int IntKind.u8 i8,D.int IntKind.u8 i2]) fun r9=>
      asI IntKind.u8 r9 fun i10=>
      sif (List.length l3+(1:Nat)≤(4294967296:Nat)) <|
      sif (List.length l3=List.length l3) <|
      letN (IntKind.wrap IntKind.i64 (i6+(1:Int))) fun n11=>
      sif (List.length l3+(1:Nat)=List.length (l3++[D.int IntKind.u8 i10])) <|
      again1 (((i2,l3++[D.int IntKind.u8 i10],l4,i5,n11,PUnit.unit),PUnit.unit)))
      (sif (List.length l3=List.length l3) <|
      sif (List.all l3 D.free=true) <|
      some (D.sl Tag.own l3)))
    (((a1,[],a0,(↑(List.length a0):Int),(0:Int),PUnit.unit),PUnit.unit))
theorem zsn (zdv:List D→Option D) (tga0:Tag) (a0:List D) (a1:Int):denP Try.prog (zaB [(ID.gf_Mul,(.pure [0] zdv))]) zjB [1] ID.synd_Scale [.sl tga0 a0,.int .u8 a1]=ziu zdv (D.lentL a0) a1:=by kernel_rfl
theorem zoi (tga0:Tag) (a0:List D) (a1:Int):zaw [.sl tga0 a0,.int .u8 a1]=ziu zdv (D.lentL a0) a1:=zsn zdv tga0 a0 a1
def zmq:Ann:={ loops:=[(1,[.dead,.val (.cell .lent),.dead,.dead,.dead,.own 1,.dead,.dead,.dead,.dead,.dead,.dead,.dead,.val (.cell .lent),.val (.cell (.int .i64)),.val (.cell (.int .i64))])] }
noncomputable def zay:List D→Option D:=denP Try.prog (zaB []) zmq [1] ID.synd_Add
theorem zoH:za5 Try.prog ID.synd_Add (.pure [1] zay):=zaA (zaE []) zbz ⟨Try.f132,by kernel_rfl,by kernel_rfl,by kernel_rfl⟩
noncomputable def ze0:Fact Try.prog:=⟨ID.synd_Add,(.pure [1] zay),zoH⟩
noncomputable def zlO (a0:List D) (a1:List D):Option D:=
  brK ((↑(List.length a0):Int) != (↑(List.length a1):Int))
    (some (D.sl Tag.own []))
    (zcR (α:=(List D×List D×List D×Int×Int×PUnit)×PUnit) (fun again1 ((l2,(l3,(l4,(i5,(i6,_))))),_)=>
      brK (decide (i6 < i5))
        (sif ((0:Int)≤i6) <|
        getK l4 (Int.toNat i6) fun d7=>
        asI IntKind.u8 d7 fun i8=>
        sif ((0:Int)≤i6) <|
        getK l2 (Int.toNat i6) fun d9=>
        asI IntKind.u8 d9 fun i10=>
        letN (bits BinOp.xor IntKind.u8 i8 i10) fun n11=>
        sif (List.length l3+(1:Nat)≤(4294967296:Nat)) <|
        sif (List.length l3=List.length l3) <|
        letN (IntKind.wrap IntKind.i64 (i6+(1:Int))) fun n12=>
        sif (List.length l3+(1:Nat)=List.length (l3++[D.int IntKind.u8 n11])) <|
        again1 (((l2,l3++[D.int IntKind.u8 n11],l4,i5,n12,PUnit.unit),PUnit.unit)))
        (sif (List.length l3=List.length l3) <|
        sif (List.all l3 D.free=true) <|
        some (D.sl Tag.own l3)))
      (((a1,[],a0,(↑(List.length a0):Int),(0:Int),PUnit.unit),PUnit.unit)))
theorem zvo (tga0:Tag) (tga1:Tag) (a0:List D) (a1:List D):denP Try.prog (zaB []) zmq [1] ID.synd_Add [.sl tga0 a0,.sl tga1 a1]=zlO (D.lentL a0) (D.lentL a1):=by kernel_rfl
theorem zqN (tga0:Tag) (tga1:Tag) (a0:List D) (a1:List D):zay [.sl tga0 a0,.sl tga1 a1]=zlO (D.lentL a0) (D.lentL a1):=zvo tga0 tga1 a0 a1
def zpE:Ann:={ loops:=[(0,[.dead,.dead,.dead,.val (.cell (.int .u8)),.dead,.dead,.dead,.val (.cell (.int .i64)),.val (.cell (.int .i64))])] }
noncomputable def zaF:List D→Option D:=denP Try.prog (zaB [(ID.gf_double,(.pure [0] zaK))]) zpE [0] ID.gf_Pow
theorem zso:za5 Try.prog ID.gf_Pow (.pure [0] zaF):=zaA (zaE [zf8]) zbz ⟨Try.f138,by kernel_rfl,by kernel_rfl,by kernel_rfl⟩
noncomputable def zfu:Fact Try.prog:=⟨ID.gf_Pow,(.pure [0] zaF),zso⟩
noncomputable def zm2 (zaK:List D→Option D) (a0:Int):Option D:=
  letN (Int.tmod a0 (255:Int)) fun n1=>
  letN (IntKind.wrap IntKind.i64 (n1+(255:Int))) fun n2=>
  letN (Int.tmod n2 (255:Int)) fun n3=>
  zcR (α:=(Int×Int×Int×PUnit)×PUnit) (fun again4 ((i5,(i6,(i7,_))),_)=>
    brK (decide (i7 < i6))
      (zar (zaK [D.int IntKind.u8 i5]) fun r8=>
      asI IntKind.u8 r8 fun i9=>
      letN (IntKind.wrap IntKind.i64 (i7+(1:Int))) fun n10=>
      again4 (((i9,i6,n10,PUnit.unit),PUnit.unit)))
      (some (D.int IntKind.u8 i5)))
    ((((1:Int),n3,(0:Int),PUnit.unit),PUnit.unit))
theorem zyB (zaK:List D→Option D) (a0:Int):denP Try.prog (zaB [(ID.gf_double,(.pure [0] zaK))]) zpE [0] ID.gf_Pow [.int .i64 a0]=zm2 zaK a0:=by kernel_rfl
theorem zoj (a0:Int):zaF [.int .i64 a0]=zm2 zaK a0:=zyB zaK a0
def zmr:Ann:={ loops:=[] }
noncomputable def za8:List D→Option D:=denP Try.prog (zaB []) zmr [0] ID.synd_P_1
theorem zoI:za5 Try.prog ID.synd_P_1 (.pure [0] za8):=zaA (zaE []) zbz ⟨Try.f137,by kernel_rfl,by kernel_rfl,by kernel_rfl⟩
noncomputable def zk3:Fact Try.prog:=⟨ID.synd_P_1,(.pure [0] za8),zoI⟩
noncomputable def zpF (a0:Int):Option D:=
  some (D.int IntKind.u8 (1:Int))
theorem zvp (a0:Int):denP Try.prog (zaB []) zmr [0] ID.synd_P_1 [.int .i64 a0]=zpF a0:=by kernel_rfl
theorem zqO (a0:Int):za8 [.int .i64 a0]=zpF a0:=zvp a0
def ziv:List (Nat×Ann):=[(137,{ loops:=[(1,[.dead,.fnc 137,.dead,.dead,.dead,.own 1,.dead,.dead,.dead,.dead,.dead,.dead,.dead,.dead,.dead,.dead,.val (.cell .lent),.val (.cell (.int .i64)),.val (.cell (.int .i64))])] }),(138,{ loops:=[(1,[.dead,.fnc 138,.dead,.dead,.dead,.own 1,.dead,.dead,.dead,.dead,.dead,.dead,.dead,.dead,.dead,.dead,.val (.cell .lent),.val (.cell (.int .i64)),.val (.cell (.int .i64))])] })]
noncomputable def zbj:List D→Option D:=denA Try.prog (zaB [(ID.synd_Scale,(.pure [1] zaw)),(ID.synd_Add,(.pure [1] zay)),(ID.gf_Pow,(.pure [0] zaF)),(ID.synd_P_1,(.pure [0] za8))]) ziv [1] ID.synd_sum
theorem zoJ:za5 Try.prog ID.synd_sum (.pure [1] zbj):=zpu (zaE [zft,ze0,zfu,zk3]) zbz ⟨Try.f136,by kernel_rfl,by kernel_rfl,by kernel_rfl⟩
noncomputable def zk4:Fact Try.prog:=⟨ID.synd_sum,(.pure [1] zbj),zoJ⟩
noncomputable def zg9 (zaw:List D→Option D) (zay:List D→Option D) (zaF:List D→Option D) (za8:List D→Option D) (a0:List D):Option D:=
  brK ((↑(List.length a0):Int) == (0:Int))
    (some (D.sl Tag.own []))
    (getK a0 ((0:Nat)) fun d1=>
    asSl d1 fun t2 l3=>
    sif ((↑(List.length l3):Int)=(↑(List.length l3):Int)) <|
    sif ((↑(List.length l3):Int)*(1:Int)≤(140737488355328:Int)) <|
    sif ((↑(List.length l3):Int)≤(140737488355328:Int)) <|
    sif (Int.toNat (↑(List.length l3):Int)=List.length (List.replicate (Int.toNat (↑(List.length l3):Int)) (D.int IntKind.u8 (0:Int)))) <|
    zcR (α:=(List D×List D×Int×Int×PUnit)×PUnit) (fun again4 ((l5,(l6,(i7,(i8,_)))),_)=>
      brK (decide (i8 < i7))
        (sif ((0:Int)≤i8) <|
        getK l6 (Int.toNat i8) fun d9=>
        asSl d9 fun t10 l11=>
        sif ((0:Nat)+List.length l5≤List.length l5) <|
        brK ((↑(List.length l11):Int) != (↑(List.length l5):Int))
          (some (D.sl Tag.own []))
          (zar (za8 [D.int IntKind.i64 i8]) fun r12=>
          asI IntKind.u8 r12 fun i13=>
          zar (zaw [D.sl t10 l11,D.int IntKind.u8 i13]) fun r14=>
          zbd r14 fun l15=>
          sif ((0:Nat)+List.length l5≤List.length l5) <|
          sif ((0:Nat)+List.length l15≤List.length l15) <|
          zar (zay [D.sl Tag.lent (cut (0:Nat) (List.length l5) l5),D.sl Tag.lent (cut (0:Nat) (List.length l15) l15)]) fun r16=>
          zbd r16 fun l17=>
          letN (IntKind.wrap IntKind.i64 (i8+(1:Int))) fun n18=>
          sif (List.length l17=List.length l17) <|
          again4 (((l17,l6,i7,n18,PUnit.unit),PUnit.unit))))
        (sif (List.length l5=List.length l5) <|
        sif (List.all l5 D.free=true) <|
        some (D.sl Tag.own l5)))
      (((List.replicate (Int.toNat (↑(List.length l3):Int)) (D.int IntKind.u8 (0:Int)),a0,(↑(List.length a0):Int),(0:Int),PUnit.unit),PUnit.unit)))
theorem zqP (zaw:List D→Option D) (zay:List D→Option D) (zaF:List D→Option D) (za8:List D→Option D) (tga0:Tag) (a0:List D):denA Try.prog (zaB [(ID.synd_Scale,(.pure [1] zaw)),(ID.synd_Add,(.pure [1] zay)),(ID.gf_Pow,(.pure [0] zaF)),(ID.synd_P_1,(.pure [0] za8))]) ziv [1] ID.synd_sum [.sl tga0 a0,.fn 137 [] []]=zg9 zaw zay zaF za8 (D.lentL a0):=by kernel_rfl
theorem zmI (tga0:Tag) (a0:List D):zbj [.sl tga0 a0,.fn 137 [] []]=zg9 zaw zay zaF za8 (D.lentL a0):=zqP zaw zay zaF za8 tga0 a0
noncomputable def zha (zaw:List D→Option D) (zay:List D→Option D) (zaF:List D→Option D) (za8:List D→Option D) (a0:List D):Option D:=
  brK ((↑(List.length a0):Int) == (0:Int))
    (some (D.sl Tag.own []))
    (getK a0 ((0:Nat)) fun d1=>
    asSl d1 fun t2 l3=>
    sif ((↑(List.length l3):Int)=(↑(List.length l3):Int)) <|
    sif ((↑(List.length l3):Int)*(1:Int)≤(140737488355328:Int)) <|
    sif ((↑(List.length l3):Int)≤(140737488355328:Int)) <|
    sif (Int.toNat (↑(List.length l3):Int)=List.length (List.replicate (Int.toNat (↑(List.length l3):Int)) (D.int IntKind.u8 (0:Int)))) <|
    zcR (α:=(List D×List D×Int×Int×PUnit)×PUnit) (fun again4 ((l5,(l6,(i7,(i8,_)))),_)=>
      brK (decide (i8 < i7))
        (sif ((0:Int)≤i8) <|
        getK l6 (Int.toNat i8) fun d9=>
        asSl d9 fun t10 l11=>
        sif ((0:Nat)+List.length l5≤List.length l5) <|
        brK ((↑(List.length l11):Int) != (↑(List.length l5):Int))
          (some (D.sl Tag.own []))
          (zar (zaF [D.int IntKind.i64 i8]) fun r12=>
          asI IntKind.u8 r12 fun i13=>
          zar (zaw [D.sl t10 l11,D.int IntKind.u8 i13]) fun r14=>
          zbd r14 fun l15=>
          sif ((0:Nat)+List.length l5≤List.length l5) <|
          sif ((0:Nat)+List.length l15≤List.length l15) <|
          zar (zay [D.sl Tag.lent (cut (0:Nat) (List.length l5) l5),D.sl Tag.lent (cut (0:Nat) (List.length l15) l15)]) fun r16=>
          zbd r16 fun l17=>
          letN (IntKind.wrap IntKind.i64 (i8+(1:Int))) fun n18=>
          sif (List.length l17=List.length l17) <|
          again4 (((l17,l6,i7,n18,PUnit.unit),PUnit.unit))))
        (sif (List.length l5=List.length l5) <|
        sif (List.all l5 D.free=true) <|
        some (D.sl Tag.own l5)))
      (((List.replicate (Int.toNat (↑(List.length l3):Int)) (D.int IntKind.u8 (0:Int)),a0,(↑(List.length a0):Int),(0:Int),PUnit.unit),PUnit.unit)))
theorem zqQ (zaw:List D→Option D) (zay:List D→Option D) (zaF:List D→Option D) (za8:List D→Option D) (tga0:Tag) (a0:List D):denA Try.prog (zaB [(ID.synd_Scale,(.pure [1] zaw)),(ID.synd_Add,(.pure [1] zay)),(ID.gf_Pow,(.pure [0] zaF)),(ID.synd_P_1,(.pure [0] za8))]) ziv [1] ID.synd_sum [.sl tga0 a0,.fn 138 [] []]=zha zaw zay zaF za8 (D.lentL a0):=by kernel_rfl
theorem zmJ (tga0:Tag) (a0:List D):zbj [.sl tga0 a0,.fn 138 [] []]=zha zaw zay zaF za8 (D.lentL a0):=zqQ zaw zay zaF za8 tga0 a0
def zpG:Ann:={ loops:=[] }
noncomputable def zbu:List D→Option D:=denP Try.prog (zaB [(ID.synd_sum,(.pure [1] zbj)),(ID.synd_P_1,(.pure [0] za8))]) zpG [1] ID.synd_P
theorem zsp:za5 Try.prog ID.synd_P (.pure [1] zbu):=zaA (zaE [zk4,zk3]) zbz ⟨Try.f110,by kernel_rfl,by kernel_rfl,by kernel_rfl⟩
noncomputable def zj6:Fact Try.prog:=⟨ID.synd_P,(.pure [1] zbu),zsp⟩
noncomputable def zqR (zbj:List D→Option D) (za8:List D→Option D) (a0:List D):Option D:=
  zar (zbj [D.sl Tag.lent a0,D.fn (137:Nat) [] []]) fun r1=>
  zbd r1 fun l2=>
  sif (List.length l2=List.length l2) <|
  sif (List.all l2 D.free=true) <|
  some (D.sl Tag.own l2)
theorem zyC (zbj:List D→Option D) (za8:List D→Option D) (tga0:Tag) (a0:List D):denP Try.prog (zaB [(ID.synd_sum,(.pure [1] zbj)),(ID.synd_P_1,(.pure [0] za8))]) zpG [1] ID.synd_P [.sl tga0 a0]=zqR zbj za8 (D.lentL a0):=by kernel_rfl
theorem ztu (tga0:Tag) (a0:List D):zbu [.sl tga0 a0]=zqR zbj za8 (D.lentL a0):=zyC zbj za8 tga0 a0
def zpH:Ann:={ loops:=[] }
noncomputable def zbv:List D→Option D:=denP Try.prog (zaB [(ID.synd_sum,(.pure [1] zbj)),(ID.gf_Pow,(.pure [0] zaF))]) zpH [1] ID.synd_Q
theorem zsq:za5 Try.prog ID.synd_Q (.pure [1] zbv):=zaA (zaE [zk4,zfu]) zbz ⟨Try.f111,by kernel_rfl,by kernel_rfl,by kernel_rfl⟩
noncomputable def zj7:Fact Try.prog:=⟨ID.synd_Q,(.pure [1] zbv),zsq⟩
noncomputable def zqS (zbj:List D→Option D) (zaF:List D→Option D) (a0:List D):Option D:=
  zar (zbj [D.sl Tag.lent a0,D.fn (138:Nat) [] []]) fun r1=>
  zbd r1 fun l2=>
  sif (List.length l2=List.length l2) <|
  sif (List.all l2 D.free=true) <|
  some (D.sl Tag.own l2)
theorem zyD (zbj:List D→Option D) (zaF:List D→Option D) (tga0:Tag) (a0:List D):denP Try.prog (zaB [(ID.synd_sum,(.pure [1] zbj)),(ID.gf_Pow,(.pure [0] zaF))]) zpH [1] ID.synd_Q [.sl tga0 a0]=zqS zbj zaF (D.lentL a0):=by kernel_rfl
theorem ztv (tga0:Tag) (a0:List D):zbv [.sl tga0 a0]=zqS zbj zaF (D.lentL a0):=zyD zbj zaF tga0 a0
def zpI:Ann:={ loops:=[(0,[.val (.cell (.int .u8)),.dead,.dead,.val (.cell (.int .u8)),.dead,.val (.cell (.int .i64))])] }
noncomputable def zdw:List D→Option D:=denP Try.prog (zaB [(ID.gf_double,(.pure [0] zaK))]) zpI [0] ID.gf_Log
theorem zsr:za5 Try.prog ID.gf_Log (.pure [0] zdw):=zaA (zaE [zf8]) zbz ⟨Try.f145,by kernel_rfl,by kernel_rfl,by kernel_rfl⟩
noncomputable def ztw:Fact Try.prog:=⟨ID.gf_Log,(.pure [0] zdw),zsr⟩
noncomputable def zqT (zaK:List D→Option D) (a0:Int):Option D:=
  zcR (α:=(Int×Int×Int×PUnit)×PUnit) (fun again1 ((i2,(i3,(i4,_))),_)=>
    brK (decide (i4 < (255:Int)))
      (brK (i3 == i2)
        (some (D.int IntKind.i64 i4))
        (zar (zaK [D.int IntKind.u8 i3]) fun r5=>
        asI IntKind.u8 r5 fun i6=>
        letN (IntKind.wrap IntKind.i64 (i4+(1:Int))) fun n7=>
        again1 (((i2,i6,n7,PUnit.unit),PUnit.unit))))
      (some (D.int IntKind.i64 (-1:Int))))
    (((a0,(1:Int),(0:Int),PUnit.unit),PUnit.unit))
theorem zyE (zaK:List D→Option D) (a0:Int):denP Try.prog (zaB [(ID.gf_double,(.pure [0] zaK))]) zpI [0] ID.gf_Log [.int .u8 a0]=zqT zaK a0:=by kernel_rfl
theorem ztx (a0:Int):zdw [.int .u8 a0]=zqT zaK a0:=zyE zaK a0
def zpJ:Ann:={ loops:=[] }
noncomputable def zb4:List D→Option D:=denP Try.prog (zaB [(ID.gf_Log,(.pure [0] zdw)),(ID.gf_Pow,(.pure [0] zaF))]) zpJ [0] ID.gf_Inv
theorem zss:za5 Try.prog ID.gf_Inv (.pure [0] zb4):=zaA (zaE [ztw,zfu]) zbz ⟨Try.f141,by kernel_rfl,by kernel_rfl,by kernel_rfl⟩
noncomputable def zok:Fact Try.prog:=⟨ID.gf_Inv,(.pure [0] zb4),zss⟩
noncomputable def zqU (zdw:List D→Option D) (zaF:List D→Option D) (a0:Int):Option D:=
  brK (a0 == (0:Int))
    (some (D.int IntKind.u8 (0:Int)))
    (zar (zdw [D.int IntKind.u8 a0]) fun r1=>
    asI IntKind.i64 r1 fun i2=>
    letN (IntKind.wrap IntKind.i64 ((255:Int) - i2)) fun n3=>
    zar (zaF [D.int IntKind.i64 n3]) fun r4=>
    asI IntKind.u8 r4 fun i5=>
    some (D.int IntKind.u8 i5))
theorem zyF (zdw:List D→Option D) (zaF:List D→Option D) (a0:Int):denP Try.prog (zaB [(ID.gf_Log,(.pure [0] zdw)),(ID.gf_Pow,(.pure [0] zaF))]) zpJ [0] ID.gf_Inv [.int .u8 a0]=zqU zdw zaF a0:=by kernel_rfl
theorem zty (a0:Int):zb4 [.int .u8 a0]=zqU zdw zaF a0:=zyF zdw zaF a0
def zk5:Ann:={ loops:=[] }
noncomputable def zb8:List D→Option D:=denP Try.prog (zaB [(ID.synd_P,(.pure [1] zbu)),(ID.synd_Add,(.pure [1] zay)),(ID.synd_Q,(.pure [1] zbv)),(ID.gf_Pow,(.pure [0] zaF)),(ID.gf_Inv,(.pure [0] zb4)),(ID.synd_Scale,(.pure [1] zaw))]) zk5 [1,1] ID.erase_two
theorem zol:za5 Try.prog ID.erase_two (.pure [1,1] zb8):=zaA (zaE [zj6,ze0,zj7,zfu,zok,zft]) zbz ⟨Try.f131,by kernel_rfl,by kernel_rfl,by kernel_rfl⟩
noncomputable def zoK:Fact Try.prog:=⟨ID.erase_two,(.pure [1,1] zb8),zol⟩
noncomputable def zj8 (zbu:List D→Option D) (zay:List D→Option D) (zbv:List D→Option D) (zaF:List D→Option D) (zb4:List D→Option D) (zaw:List D→Option D) (a0:List D) (a1:List D) (a2:List D) (a3:Int) (a4:Int):Option D:=
  zar (zbu [D.sl Tag.lent a2]) fun r1=>
  zbd r1 fun l2=>
  sif ((0:Nat)+List.length l2≤List.length l2) <|
  zar (zay [D.sl Tag.lent a0,D.sl Tag.lent (cut (0:Nat) (List.length l2) l2)]) fun r3=>
  zbd r3 fun l4=>
  zar (zbv [D.sl Tag.lent a2]) fun r5=>
  zbd r5 fun l6=>
  sif ((0:Nat)+List.length l6≤List.length l6) <|
  zar (zay [D.sl Tag.lent a1,D.sl Tag.lent (cut (0:Nat) (List.length l6) l6)]) fun r7=>
  zbd r7 fun l8=>
  zar (zaF [D.int IntKind.i64 a3]) fun r9=>
  asI IntKind.u8 r9 fun i10=>
  zar (zaF [D.int IntKind.i64 a4]) fun r11=>
  asI IntKind.u8 r11 fun i12=>
  letN (bits BinOp.xor IntKind.u8 i10 i12) fun n13=>
  zar (zb4 [D.int IntKind.u8 n13]) fun r14=>
  asI IntKind.u8 r14 fun i15=>
  zar (zaF [D.int IntKind.i64 a4]) fun r16=>
  asI IntKind.u8 r16 fun i17=>
  sif ((0:Nat)+List.length l4≤List.length l4) <|
  zar (zaw [D.sl Tag.lent (cut (0:Nat) (List.length l4) l4),D.int IntKind.u8 i17]) fun r18=>
  zbd r18 fun l19=>
  sif ((0:Nat)+List.length l8≤List.length l8) <|
  sif ((0:Nat)+List.length l19≤List.length l19) <|
  zar (zay [D.sl Tag.lent (cut (0:Nat) (List.length l8) l8),D.sl Tag.lent (cut (0:Nat) (List.length l19) l19)]) fun r20=>
  zbd r20 fun l21=>
  sif ((0:Nat)+List.length l21≤List.length l21) <|
  zar (zaw [D.sl Tag.lent (cut (0:Nat) (List.length l21) l21),D.int IntKind.u8 i15]) fun r22=>
  zbd r22 fun l23=>
  sif ((0:Nat)+List.length l4≤List.length l4) <|
  sif ((0:Nat)+List.length l23≤List.length l23) <|
  zar (zay [D.sl Tag.lent (cut (0:Nat) (List.length l4) l4),D.sl Tag.lent (cut (0:Nat) (List.length l23) l23)]) fun r24=>
  zbd r24 fun l25=>
  sif (List.length l23=List.length l23) <|
  sif (List.all l23 D.free=true) <|
  sif (List.length l25=List.length l25) <|
  sif (List.all l25 D.free=true) <|
  some (D.tup [D.sl Tag.own l23,D.sl Tag.own l25])
theorem ztz (zbu:List D→Option D) (zay:List D→Option D) (zbv:List D→Option D) (zaF:List D→Option D) (zb4:List D→Option D) (zaw:List D→Option D) (tga0:Tag) (tga1:Tag) (tga2:Tag) (a0:List D) (a1:List D) (a2:List D) (a3:Int) (a4:Int):denP Try.prog (zaB [(ID.synd_P,(.pure [1] zbu)),(ID.synd_Add,(.pure [1] zay)),(ID.synd_Q,(.pure [1] zbv)),(ID.gf_Pow,(.pure [0] zaF)),(ID.gf_Inv,(.pure [0] zb4)),(ID.synd_Scale,(.pure [1] zaw))]) zk5 [1,1] ID.erase_two [.sl tga0 a0,.sl tga1 a1,.sl tga2 a2,.int .i64 a3,.int .i64 a4]=zj8 zbu zay zbv zaF zb4 zaw (D.lentL a0) (D.lentL a1) (D.lentL a2) a3 a4:=by kernel_rfl
theorem zoL (tga0:Tag) (tga1:Tag) (tga2:Tag) (a0:List D) (a1:List D) (a2:List D) (a3:Int) (a4:Int):zb8 [.sl tga0 a0,.sl tga1 a1,.sl tga2 a2,.int .i64 a3,.int .i64 a4]=zj8 zbu zay zbv zaF zb4 zaw (D.lentL a0) (D.lentL a1) (D.lentL a2) a3 a4:=ztz zbu zay zbv zaF zb4 zaw tga0 tga1 tga2 a0 a1 a2 a3 a4
def zk6:Ann:={ loops:=[] }
noncomputable def zbW:List D→Option D:=denP Try.prog (zaB [(ID.synd_Q,(.pure [1] zbv)),(ID.synd_Add,(.pure [1] zay)),(ID.gf_Pow,(.pure [0] zaF)),(ID.gf_Inv,(.pure [0] zb4)),(ID.synd_Scale,(.pure [1] zaw))]) zk6 [1] ID.erase_byQ
theorem zom:za5 Try.prog ID.erase_byQ (.pure [1] zbW):=zaA (zaE [zj7,ze0,zfu,zok,zft]) zbz ⟨Try.f133,by kernel_rfl,by kernel_rfl,by kernel_rfl⟩
noncomputable def zoM:Fact Try.prog:=⟨ID.erase_byQ,(.pure [1] zbW),zom⟩
noncomputable def zj9 (zbv:List D→Option D) (zay:List D→Option D) (zaF:List D→Option D) (zb4:List D→Option D) (zaw:List D→Option D) (a0:List D) (a1:List D) (a2:Int):Option D:=
  zar (zbv [D.sl Tag.lent a1]) fun r1=>
  zbd r1 fun l2=>
  sif ((0:Nat)+List.length l2≤List.length l2) <|
  zar (zay [D.sl Tag.lent a0,D.sl Tag.lent (cut (0:Nat) (List.length l2) l2)]) fun r3=>
  zbd r3 fun l4=>
  zar (zaF [D.int IntKind.i64 a2]) fun r5=>
  asI IntKind.u8 r5 fun i6=>
  zar (zb4 [D.int IntKind.u8 i6]) fun r7=>
  asI IntKind.u8 r7 fun i8=>
  sif ((0:Nat)+List.length l4≤List.length l4) <|
  zar (zaw [D.sl Tag.lent (cut (0:Nat) (List.length l4) l4),D.int IntKind.u8 i8]) fun r9=>
  zbd r9 fun l10=>
  sif (List.length l10=List.length l10) <|
  sif (List.all l10 D.free=true) <|
  some (D.sl Tag.own l10)
theorem ztA (zbv:List D→Option D) (zay:List D→Option D) (zaF:List D→Option D) (zb4:List D→Option D) (zaw:List D→Option D) (tga0:Tag) (tga1:Tag) (a0:List D) (a1:List D) (a2:Int):denP Try.prog (zaB [(ID.synd_Q,(.pure [1] zbv)),(ID.synd_Add,(.pure [1] zay)),(ID.gf_Pow,(.pure [0] zaF)),(ID.gf_Inv,(.pure [0] zb4)),(ID.synd_Scale,(.pure [1] zaw))]) zk6 [1] ID.erase_byQ [.sl tga0 a0,.sl tga1 a1,.int .i64 a2]=zj9 zbv zay zaF zb4 zaw (D.lentL a0) (D.lentL a1) a2:=by kernel_rfl
theorem zoN (tga0:Tag) (tga1:Tag) (a0:List D) (a1:List D) (a2:Int):zbW [.sl tga0 a0,.sl tga1 a1,.int .i64 a2]=zj9 zbv zay zaF zb4 zaw (D.lentL a0) (D.lentL a1) a2:=ztA zbv zay zaF zb4 zaw tga0 tga1 a0 a1 a2
def ziw:Ann:={ loops:=[] }
noncomputable def zby:List D→Option D:=denP Try.prog (zaB [(ID.erase_Missing,(.pure [1] zbb)),(ID.erase_fits,(.pure [0] zbE)),(ID.erase_filled,(.pure [1] zbo)),(ID.erase_two,(.pure [1,1] zb8)),(ID.synd_P,(.pure [1] zbu)),(ID.synd_Add,(.pure [1] zay)),(ID.erase_byQ,(.pure [1] zbW))]) ziw [1,0] ID.erase_Solve
theorem zlP:za5 Try.prog ID.erase_Solve (.pure [1,0] zby):=zaA (zaE [zkX,zof,zlM,zoK,zj6,ze0,zoM]) zbz ⟨Try.f105,by kernel_rfl,by kernel_rfl,by kernel_rfl⟩
noncomputable def zmK:Fact Try.prog:=⟨ID.erase_Solve,(.pure [1,0] zby),zlP⟩
noncomputable def zhb (zbb:List D→Option D) (zbE:List D→Option D) (zbo:List D→Option D) (zb8:List D→Option D) (zbu:List D→Option D) (zay:List D→Option D) (zbW:List D→Option D) (a0:Int) (a1:List D) (a2:List D) (a3:List D):Option D:=
  zar (zbb [D.sl Tag.lent a3]) fun r1=>
  zbd r1 fun l2=>
  brK (decide (a0 < (1:Int)))
    (some (D.tup [D.sl Tag.own [],D.bool false]))
    (brK (decide ((↑(List.length a3):Int) < (1:Int)))
      (some (D.tup [D.sl Tag.own [],D.bool false]))
      (brK (decide ((↑(List.length a3):Int) > (8:Int)))
        (some (D.tup [D.sl Tag.own [],D.bool false]))
        (zar (zbE [D.int IntKind.i64 a0,D.sl Tag.lent a3]) fun r3=>
        asB r3 fun b4=>
        brK (!b4)
          (some (D.tup [D.sl Tag.own [],D.bool false]))
          (zar (zbE [D.int IntKind.i64 a0,D.sl Tag.full [D.sl Tag.lent a1,D.sl Tag.lent a2]]) fun r5=>
          asB r5 fun b6=>
          brK (!b6)
            (some (D.tup [D.sl Tag.own [],D.bool false]))
            (sif ((0:Nat)+List.length l2≤List.length l2) <|
            zar (zbb [D.sl Tag.full [D.sl Tag.lent a1,D.sl Tag.lent a2]]) fun r7=>
            zbd r7 fun l8=>
            sif ((0:Nat)+List.length l8≤List.length l8) <|
            letN (IntKind.wrap IntKind.i64 ((↑(List.length l2):Int)+(↑(List.length l8):Int))) fun n9=>
            brK (decide (n9 > (2:Int)))
              (some (D.tup [D.sl Tag.own [],D.bool false]))
              (zar (zbo [D.int IntKind.i64 a0,D.sl Tag.lent a3]) fun r10=>
              zbd r10 fun l11=>
              sif ((0:Nat)+List.length l2≤List.length l2) <|
              brK ((↑(List.length l2):Int) == (2:Int))
                (sif ((0:Nat) < List.length l2) <|
                getK l2 ((0:Nat)) fun d12=>
                asI IntKind.i64 d12 fun i13=>
                sif ((1:Nat) < List.length l2) <|
                getK l2 ((1:Nat)) fun d14=>
                asI IntKind.i64 d14 fun i15=>
                sif ((0:Nat) < List.length l2) <|
                getK l2 ((0:Nat)) fun d16=>
                asI IntKind.i64 d16 fun i17=>
                sif ((1:Nat) < List.length l2) <|
                getK l2 ((1:Nat)) fun d18=>
                asI IntKind.i64 d18 fun i19=>
                sif ((0:Nat)+List.length l11≤List.length l11) <|
                zar (zb8 [D.sl Tag.lent a1,D.sl Tag.lent a2,D.sl Tag.lent (cut (0:Nat) (List.length l11) l11),D.int IntKind.i64 i17,D.int IntKind.i64 i19]) fun r20=>
                zeq r20 fun ts21=>
                zau ([Lf.any,Lf.any]) ts21 fun c22=>
                zbd c22.fst fun l23=>
                zbd c22.snd.fst fun l24=>
                sif ((0:Int)≤i13) <|
                sif (Int.toNat i13 < List.length l11) <|
                sif ((0:Nat)+List.length l23≤List.length l23) <|
                getK l11 ((0:Nat)+Int.toNat i13) fun d25=>
                sif ((0:Nat)+List.length l23≤List.length l23) <|
                sif (D.isAgg d25=false) <|
                sif ((0:Int)≤i15) <|
                sif (Int.toNat i15 < List.length l11) <|
                sif ((0:Nat)+List.length l24≤List.length l24) <|
                getK (List.set l11 ((0:Nat)+Int.toNat i13) (D.sl Tag.fresh (cut (0:Nat) (List.length l23) l23))) ((0:Nat)+Int.toNat i15) fun d26=>
                sif ((0:Nat)+List.length l24≤List.length l24) <|
                sif (D.isAgg d26=false) <|
                sif (List.length l11=List.length (List.set (List.set l11 ((0:Nat)+Int.toNat i13) (D.sl Tag.fresh (cut (0:Nat) (List.length l23) l23))) ((0:Nat)+Int.toNat i15) (D.sl Tag.fresh (cut (0:Nat) (List.length l24) l24)))) <|
                sif (List.all (List.set (List.set l11 ((0:Nat)+Int.toNat i13) (D.sl Tag.fresh (cut (0:Nat) (List.length l23) l23))) ((0:Nat)+Int.toNat i15) (D.sl Tag.fresh (cut (0:Nat) (List.length l24) l24))) D.free=true) <|
                some (D.tup [D.sl Tag.own (List.set (List.set l11 ((0:Nat)+Int.toNat i13) (D.sl Tag.fresh (cut (0:Nat) (List.length l23) l23))) ((0:Nat)+Int.toNat i15) (D.sl Tag.fresh (cut (0:Nat) (List.length l24) l24))),D.bool true]))
                (sif ((0:Nat)+List.length l2≤List.length l2) <|
                brK ((↑(List.length l2):Int) == (1:Int))
                  (brK (decide ((↑(List.length a1):Int) > (0:Int)))
                    (sif ((0:Nat) < List.length l2) <|
                    getK l2 ((0:Nat)) fun d27=>
                    asI IntKind.i64 d27 fun i28=>
                    sif ((0:Nat)+List.length l11≤List.length l11) <|
                    zar (zbu [D.sl Tag.lent (cut (0:Nat) (List.length l11) l11)]) fun r29=>
                    zbd r29 fun l30=>
                    sif ((0:Nat)+List.length l30≤List.length l30) <|
                    zar (zay [D.sl Tag.lent a1,D.sl Tag.lent (cut (0:Nat) (List.length l30) l30)]) fun r31=>
                    zbd r31 fun l32=>
                    sif ((0:Int)≤i28) <|
                    sif (Int.toNat i28 < List.length l11) <|
                    sif ((0:Nat)+List.length l32≤List.length l32) <|
                    getK l11 ((0:Nat)+Int.toNat i28) fun d33=>
                    sif ((0:Nat)+List.length l32≤List.length l32) <|
                    sif (D.isAgg d33=false) <|
                    sif (List.length l11=List.length (List.set l11 ((0:Nat)+Int.toNat i28) (D.sl Tag.fresh (cut (0:Nat) (List.length l32) l32)))) <|
                    sif (List.all (List.set l11 ((0:Nat)+Int.toNat i28) (D.sl Tag.fresh (cut (0:Nat) (List.length l32) l32))) D.free=true) <|
                    some (D.tup [D.sl Tag.own (List.set l11 ((0:Nat)+Int.toNat i28) (D.sl Tag.fresh (cut (0:Nat) (List.length l32) l32))),D.bool true]))
                    (sif ((0:Nat)+List.length l2≤List.length l2) <|
                    brK ((↑(List.length l2):Int) == (1:Int))
                      (sif ((0:Nat) < List.length l2) <|
                      getK l2 ((0:Nat)) fun d34=>
                      asI IntKind.i64 d34 fun i35=>
                      sif ((0:Nat) < List.length l2) <|
                      getK l2 ((0:Nat)) fun d36=>
                      asI IntKind.i64 d36 fun i37=>
                      sif ((0:Nat)+List.length l11≤List.length l11) <|
                      zar (zbW [D.sl Tag.lent a2,D.sl Tag.lent (cut (0:Nat) (List.length l11) l11),D.int IntKind.i64 i37]) fun r38=>
                      zbd r38 fun l39=>
                      sif ((0:Int)≤i35) <|
                      sif (Int.toNat i35 < List.length l11) <|
                      sif ((0:Nat)+List.length l39≤List.length l39) <|
                      getK l11 ((0:Nat)+Int.toNat i35) fun d40=>
                      sif ((0:Nat)+List.length l39≤List.length l39) <|
                      sif (D.isAgg d40=false) <|
                      sif (List.length l11=List.length (List.set l11 ((0:Nat)+Int.toNat i35) (D.sl Tag.fresh (cut (0:Nat) (List.length l39) l39)))) <|
                      sif (List.all (List.set l11 ((0:Nat)+Int.toNat i35) (D.sl Tag.fresh (cut (0:Nat) (List.length l39) l39))) D.free=true) <|
                      some (D.tup [D.sl Tag.own (List.set l11 ((0:Nat)+Int.toNat i35) (D.sl Tag.fresh (cut (0:Nat) (List.length l39) l39))),D.bool true]))
                      (sif (List.length l11=List.length l11) <|
                      sif (List.all l11 D.free=true) <|
                      some (D.tup [D.sl Tag.own l11,D.bool true]))))
                  (sif ((0:Nat)+List.length l2≤List.length l2) <|
                  brK ((↑(List.length l2):Int) == (1:Int))
                    (sif ((0:Nat) < List.length l2) <|
                    getK l2 ((0:Nat)) fun d41=>
                    asI IntKind.i64 d41 fun i42=>
                    sif ((0:Nat) < List.length l2) <|
                    getK l2 ((0:Nat)) fun d43=>
                    asI IntKind.i64 d43 fun i44=>
                    sif ((0:Nat)+List.length l11≤List.length l11) <|
                    zar (zbW [D.sl Tag.lent a2,D.sl Tag.lent (cut (0:Nat) (List.length l11) l11),D.int IntKind.i64 i44]) fun r45=>
                    zbd r45 fun l46=>
                    sif ((0:Int)≤i42) <|
                    sif (Int.toNat i42 < List.length l11) <|
                    sif ((0:Nat)+List.length l46≤List.length l46) <|
                    getK l11 ((0:Nat)+Int.toNat i42) fun d47=>
                    sif ((0:Nat)+List.length l46≤List.length l46) <|
                    sif (D.isAgg d47=false) <|
                    sif (List.length l11=List.length (List.set l11 ((0:Nat)+Int.toNat i42) (D.sl Tag.fresh (cut (0:Nat) (List.length l46) l46)))) <|
                    sif (List.all (List.set l11 ((0:Nat)+Int.toNat i42) (D.sl Tag.fresh (cut (0:Nat) (List.length l46) l46))) D.free=true) <|
                    some (D.tup [D.sl Tag.own (List.set l11 ((0:Nat)+Int.toNat i42) (D.sl Tag.fresh (cut (0:Nat) (List.length l46) l46))),D.bool true]))
                    (sif (List.length l11=List.length l11) <|
                    sif (List.all l11 D.free=true) <|
                    some (D.tup [D.sl Tag.own l11,D.bool true]))))))))))
theorem zqV (zbb:List D→Option D) (zbE:List D→Option D) (zbo:List D→Option D) (zb8:List D→Option D) (zbu:List D→Option D) (zay:List D→Option D) (zbW:List D→Option D) (tga1:Tag) (tga2:Tag) (tga3:Tag) (a0:Int) (a1:List D) (a2:List D) (a3:List D):denP Try.prog (zaB [(ID.erase_Missing,(.pure [1] zbb)),(ID.erase_fits,(.pure [0] zbE)),(ID.erase_filled,(.pure [1] zbo)),(ID.erase_two,(.pure [1,1] zb8)),(ID.synd_P,(.pure [1] zbu)),(ID.synd_Add,(.pure [1] zay)),(ID.erase_byQ,(.pure [1] zbW))]) ziw [1,0] ID.erase_Solve [.int .i64 a0,.sl tga1 a1,.sl tga2 a2,.sl tga3 a3]=zhb zbb zbE zbo zb8 zbu zay zbW a0 (D.lentL a1) (D.lentL a2) (D.lentL a3):=by kernel_rfl
theorem zmL (tga1:Tag) (tga2:Tag) (tga3:Tag) (a0:Int) (a1:List D) (a2:List D) (a3:List D):zby [.int .i64 a0,.sl tga1 a1,.sl tga2 a2,.sl tga3 a3]=zhb zbb zbE zbo zb8 zbu zay zbW a0 (D.lentL a1) (D.lentL a2) (D.lentL a3):=zqV zbb zbE zbo zb8 zbu zay zbW tga1 tga2 tga3 a0 a1 a2 a3
def zms:Ann:={ loops:=[(1,[.dead,.val (.cell (.int .i64)),.val (.cell .lent),.box true [(.int .i64),(.int .i64),(.int .i64)],.dead,.dead,.dead,.dead,.own 1,.dead,.dead,.dead,.dead,.dead,.dead,.dead,.dead,.dead,.dead,.dead,.dead,.dead,.dead,.dead,.val (.cell (.int .i64)),.val (.cell (.int .i64))])] }
noncomputable def zcl:List D→Option D:=denP Try.prog (zaB [(ID.row_in,(.pure [0] zb3)),(ID.geom_Width,(.pure [0] zaD)),(ID.place_Disk,(.pure [0] zaX)),(ID.place_Parity,(.pure [0,0] zax)),(ID.erase_Solve,(.pure [1,0] zby))]) zms [1,0] ID.row_Take
theorem zoO:za5 Try.prog ID.row_Take (.pure [1,0] zcl):=zaA (zaE [zoa,zfq,zir,zee,zmK]) zbz ⟨Try.f71,by kernel_rfl,by kernel_rfl,by kernel_rfl⟩
noncomputable def zqW:Fact Try.prog:=⟨ID.row_Take,(.pure [1,0] zcl),zoO⟩
noncomputable def zlQ (zb3:List D→Option D) (zaD:List D→Option D) (zaX:List D→Option D) (zax:List D→Option D) (zby:List D→Option D) (a0_0:Int) (a0_1:Int) (a0_2:Int) (a1:Int) (a2:List D):Option D:=
  zar (zb3 [D.agg [D.int IntKind.i64 a0_0,D.int IntKind.i64 a0_1,D.int IntKind.i64 a0_2],D.int IntKind.i64 a1]) fun r1=>
  asB r1 fun b2=>
  brK (!b2)
    (some (D.tup [D.sl Tag.own [],D.bool false]))
    (brK ((↑(List.length a2):Int) != a0_1)
      (some (D.tup [D.sl Tag.own [],D.bool false]))
      (zar (zaD [D.agg [D.int IntKind.i64 a0_0,D.int IntKind.i64 a0_1,D.int IntKind.i64 a0_2]]) fun r3=>
      asI IntKind.i64 r3 fun i4=>
      zcR (α:=(Int×List D×(Int×Int×Int×PUnit)×List D×Int×Int×PUnit)×PUnit) (fun again5 ((i6,(l7,((i8,(i9,(i10,_))),(l11,(i12,(i13,_)))))),_)=>
        brK (decide (i13 < i12))
          (zar (zaX [D.agg [D.int IntKind.i64 i8,D.int IntKind.i64 i9,D.int IntKind.i64 i10],D.int IntKind.i64 i6,D.int IntKind.i64 i13]) fun r14=>
          asI IntKind.i64 r14 fun i15=>
          sif ((0:Int)≤i15) <|
          getK l7 (Int.toNat i15) fun d16=>
          asSl d16 fun t17 l18=>
          sif (List.length l11+(1:Nat)≤(4294967296:Nat)) <|
          sif (List.length l11=List.length l11) <|
          letN (IntKind.wrap IntKind.i64 (i13+(1:Int))) fun n19=>
          sif (List.length l11+(1:Nat)=List.length (l11++[D.sl t17 l18])) <|
          again5 (((i6,l7,(i8,i9,i10,PUnit.unit),l11++[D.sl t17 l18],i12,n19,PUnit.unit),PUnit.unit)))
          (zar (zax [D.agg [D.int IntKind.i64 i8,D.int IntKind.i64 i9,D.int IntKind.i64 i10],D.int IntKind.i64 i6]) fun r20=>
          zeq r20 fun ts21=>
          zau ([Lf.any,Lf.any]) ts21 fun c22=>
          asI IntKind.i64 c22.fst fun i23=>
          asI IntKind.i64 c22.snd.fst fun i24=>
          brK (decide (i24 < (0:Int)))
            (sif ((0:Int)≤i23) <|
            getK l7 (Int.toNat i23) fun d25=>
            asSl d25 fun t26 l27=>
            sif ((0:Nat)+List.length l11≤List.length l11) <|
            zar (zby [D.int IntKind.i64 (32:Int),D.sl t26 l27,D.sl Tag.nil [],D.sl Tag.lent (cut (0:Nat) (List.length l11) l11)]) fun r28=>
            zeq r28 fun ts29=>
            zau ([Lf.any,Lf.any]) ts29 fun c30=>
            zbd c30.fst fun l31=>
            asB c30.snd.fst fun b32=>
            sif (List.length l31=List.length l31) <|
            sif (List.all l31 D.free=true) <|
            some (D.tup [D.sl Tag.own l31,D.bool b32]))
            (sif ((0:Int)≤i23) <|
            getK l7 (Int.toNat i23) fun d33=>
            asSl d33 fun t34 l35=>
            sif ((0:Int)≤i24) <|
            getK l7 (Int.toNat i24) fun d36=>
            asSl d36 fun t37 l38=>
            sif ((0:Nat)+List.length l11≤List.length l11) <|
            zar (zby [D.int IntKind.i64 (32:Int),D.sl t34 l35,D.sl t37 l38,D.sl Tag.lent (cut (0:Nat) (List.length l11) l11)]) fun r39=>
            zeq r39 fun ts40=>
            zau ([Lf.any,Lf.any]) ts40 fun c41=>
            zbd c41.fst fun l42=>
            asB c41.snd.fst fun b43=>
            sif (List.length l42=List.length l42) <|
            sif (List.all l42 D.free=true) <|
            some (D.tup [D.sl Tag.own l42,D.bool b43]))))
        (((a1,a2,(a0_0,a0_1,a0_2,PUnit.unit),[],i4,(0:Int),PUnit.unit),PUnit.unit))))
theorem zvq (zb3:List D→Option D) (zaD:List D→Option D) (zaX:List D→Option D) (zax:List D→Option D) (zby:List D→Option D) (tga2:Tag) (a0_0:Int) (a0_1:Int) (a0_2:Int) (a1:Int) (a2:List D):denP Try.prog (zaB [(ID.row_in,(.pure [0] zb3)),(ID.geom_Width,(.pure [0] zaD)),(ID.place_Disk,(.pure [0] zaX)),(ID.place_Parity,(.pure [0,0] zax)),(ID.erase_Solve,(.pure [1,0] zby))]) zms [1,0] ID.row_Take [.agg [.int .i64 a0_0,.int .i64 a0_1,.int .i64 a0_2],.int .i64 a1,.sl tga2 a2]=zlQ zb3 zaD zaX zax zby a0_0 a0_1 a0_2 a1 (D.lentL a2):=by kernel_rfl
theorem zqX (tga2:Tag) (a0_0:Int) (a0_1:Int) (a0_2:Int) (a1:Int) (a2:List D):zcl [.agg [.int .i64 a0_0,.int .i64 a0_1,.int .i64 a0_2],.int .i64 a1,.sl tga2 a2]=zlQ zb3 zaD zaX zax zby a0_0 a0_1 a0_2 a1 (D.lentL a2):=zvq zb3 zaD zaX zax zby tga2 a0_0 a0_1 a0_2 a1 a2
def zix:Ann:={ loops:=[(1,[.val (.cell (.hnd (3840:Nat))),.val (.cell .lent),.dead,.val (.cell (.int .i64)),.dead,.dead,.box true [(.int .i64),(.int .i64),(.int .i64)],.dead,.dead,.dead,.own 1,.dead,.dead,.dead,.dead,.dead,.dead,.dead,.dead,.dead,.dead,.dead,.dead,.dead,.dead,.dead,.dead,.dead,.dead,.dead,.dead,.val (.cell (.int .i64)),.val (.cell (.int .i64))])],ks:=[(3840,false),(7649,false)] }
noncomputable def zbH:List D→List Tb→Option Ans:=denS Try.prog (zaB [(ID.geom_Check,(.pure [0] zaf)),(ID.stripe_up,(.st [] [0] [(3840,false),(7649,false)] zaM)),(ID.bench_Bench_Read,(.st [] [1,0] [(3840,false),(7649,false)] za1)),(ID.row_Take,(.pure [1,0] zcl))]) zix [1,0] ID.stripe_Read
theorem zlR:za5 Try.prog ID.stripe_Read (.st [] [1,0] [(3840,false),(7649,false)] zbH):=zbi (zaE [zcv,zoA,zim,zqW]) zbz ⟨Try.f21,by kernel_rfl,by kernel_rfl,by kernel_rfl⟩
noncomputable def zmM:Fact Try.prog:=⟨ID.stripe_Read,(.st [] [1,0] [(3840,false),(7649,false)] zbH),zlR⟩
noncomputable def zhc (zaf:List D→Option D) (zaM:List D→List Tb→Option Ans) (za1:List D→List Tb→Option Ans) (zcl:List D→Option D) (a0:Nat) (a1:List D) (a2_0:Int) (a2_1:Int) (a2_2:Int) (a3:Int) (T0:Tb) (T1:Tb):Option Ans:=
  zar (zaf [D.agg [D.int IntKind.i64 a2_0,D.int IntKind.i64 a2_1,D.int IntKind.i64 a2_2]]) fun r1=>
  asI IntKind.i64 r1 fun i2=>
  brK (i2 != (0:Int))
    (some (Ans.mk (D.tup [D.sl Tag.own [],D.int IntKind.i64 (1:Int)]) [] []))
    (brK (decide (a3 < (0:Int)))
      (some (Ans.mk (D.tup [D.sl Tag.own [],D.int IntKind.i64 (1:Int)]) [] []))
      (brK (decide (a3≥(16:Int)))
        (some (Ans.mk (D.tup [D.sl Tag.own [],D.int IntKind.i64 (1:Int)]) [] []))
        (sif ((0:Int)≤a2_1) <|
        sif (a2_1=a2_1) <|
        sif (a2_1*(24:Int)≤(140737488355328:Int)) <|
        sif (a2_1≤(140737488355328:Int)) <|
        sif ((0:Nat)+Int.toNat a2_1≤List.length (List.replicate (Int.toNat a2_1) (D.sl Tag.nil []))) <|
        sif (Int.toNat a2_1=List.length (List.replicate (Int.toNat a2_1) (D.sl Tag.nil []))) <|
        zcR (α:=(Nat×List D×Int×(Int×Int×Int×PUnit)×List D×Int×Int×PUnit)×List (List D)×List (List D)×PUnit) (fun again3 ((x4,(l5,(i6,((i7,(i8,(i9,_))),(l10,(i11,(i12,_))))))),(U13,(U14,_)))=>
          brK (decide (i12 < i11))
            (zar (zaM [D.h (3840) x4 (0:Nat),D.sl Tag.lent l5,D.int IntKind.i64 i12] [U13,U14]) fun r15=>
            nilK r15.outs <|
            nilK r15.tbs <|
            asB r15.r fun b16=>
            brK (!b16)
              (letN (IntKind.wrap IntKind.i64 (i12+(1:Int))) fun n17=>
              sif (List.length l10=List.length l10) <|
              again3 (((x4,l5,i6,(i7,i8,i9,PUnit.unit),l10,i11,n17,PUnit.unit),U13,U14,PUnit.unit)))
              (letN (IntKind.wrap IntKind.i64 ((36:Int)+i6)) fun n18=>
              zar (za1 [D.h (3840) x4 (0:Nat),D.int IntKind.i64 i12,D.int IntKind.i64 n18] [U13,U14]) fun r19=>
              nilK r19.outs <|
              nilK r19.tbs <|
              zeq r19.r fun ts20=>
              zau ([Lf.any,Lf.any]) ts20 fun c21=>
              zbd c21.fst fun l22=>
              asI IntKind.i64 c21.snd.fst fun i23=>
              brK (i23 != (0:Int))
                (some (Ans.mk (D.tup [D.sl Tag.own [],D.int IntKind.i64 i23]) [] []))
                (sif ((0:Int)≤i12) <|
                sif (Int.toNat i12 < List.length l10) <|
                sif ((0:Nat)+List.length l22≤List.length l22) <|
                getK l10 ((0:Nat)+Int.toNat i12) fun d24=>
                sif ((0:Nat)+List.length l22≤List.length l22) <|
                sif (D.isAgg d24=false) <|
                letN (IntKind.wrap IntKind.i64 (i12+(1:Int))) fun n25=>
                sif (List.length l10=List.length (List.set l10 ((0:Nat)+Int.toNat i12) (D.sl Tag.fresh (cut (0:Nat) (List.length l22) l22)))) <|
                again3 (((x4,l5,i6,(i7,i8,i9,PUnit.unit),List.set l10 ((0:Nat)+Int.toNat i12) (D.sl Tag.fresh (cut (0:Nat) (List.length l22) l22)),i11,n25,PUnit.unit),U13,U14,PUnit.unit)))))
            (sif ((0:Nat)+List.length l10≤List.length l10) <|
            zar (zcl [D.agg [D.int IntKind.i64 i7,D.int IntKind.i64 i8,D.int IntKind.i64 i9],D.int IntKind.i64 i6,D.sl Tag.lent (cut (0:Nat) (List.length l10) l10)]) fun r26=>
            zeq r26 fun ts27=>
            zau ([Lf.any,Lf.any]) ts27 fun c28=>
            zbd c28.fst fun l29=>
            asB c28.snd.fst fun b30=>
            brK (!b30)
              (some (Ans.mk (D.tup [D.sl Tag.own [],D.int IntKind.i64 (7:Int)]) [] []))
              (sif (List.length l29=List.length l29) <|
              sif (List.all l29 D.free=true) <|
              some (Ans.mk (D.tup [D.sl Tag.own l29,D.int IntKind.i64 (0:Int)]) [] []))))
          (((a0,a1,a3,(a2_0,a2_1,a2_2,PUnit.unit),List.replicate (Int.toNat a2_1) (D.sl Tag.nil []),(↑(Int.toNat a2_1):Int),(0:Int),PUnit.unit),T0,T1,PUnit.unit)))))
theorem zqY (zaf:List D→Option D) (zaM:List D→List Tb→Option Ans) (za1:List D→List Tb→Option Ans) (zcl:List D→Option D) (tga1:Tag) (a0:Nat) (a1:List D) (a2_0:Int) (a2_1:Int) (a2_2:Int) (a3:Int) (T0:Tb) (T1:Tb):denS Try.prog (zaB [(ID.geom_Check,(.pure [0] zaf)),(ID.stripe_up,(.st [] [0] [(3840,false),(7649,false)] zaM)),(ID.bench_Bench_Read,(.st [] [1,0] [(3840,false),(7649,false)] za1)),(ID.row_Take,(.pure [1,0] zcl))]) zix [1,0] ID.stripe_Read [.h 3840 a0 0,.sl tga1 a1,.agg [.int .i64 a2_0,.int .i64 a2_1,.int .i64 a2_2],.int .i64 a3] [T0,T1]=zhc zaf zaM za1 zcl a0 (D.lentL a1) a2_0 a2_1 a2_2 a3 T0 T1:=by kernel_rfl
theorem zmN (tga1:Tag) (a0:Nat) (a1:List D) (a2_0:Int) (a2_1:Int) (a2_2:Int) (a3:Int) (T0:Tb) (T1:Tb):zbH [.h 3840 a0 0,.sl tga1 a1,.agg [.int .i64 a2_0,.int .i64 a2_1,.int .i64 a2_2],.int .i64 a3] [T0,T1]=zhc zaf zaM za1 zcl a0 (D.lentL a1) a2_0 a2_1 a2_2 a3 T0 T1:=zqY zaf zaM za1 zcl tga1 a0 a1 a2_0 a2_1 a2_2 a3 T0 T1
def ziy:Ann:={ loops:=[] }
noncomputable def zbI:List D→Option D:=denP Try.prog (zaB [(ID.slices_ContainsFunc_byte_byte,(.pure [0] zab)),(ID.row_sectors_1,(.pure [0] zai))]) ziy [0] ID.row_sectors
theorem zlS:za5 Try.prog ID.row_sectors (.pure [0] zbI):=zaA (zaE [zcj,zdX]) zbz ⟨Try.f108,by kernel_rfl,by kernel_rfl,by kernel_rfl⟩
noncomputable def zmO:Fact Try.prog:=⟨ID.row_sectors,(.pure [0] zbI),zlS⟩
noncomputable def zhd (zab:List D→Option D) (zai:List D→Option D) (a0:List D):Option D:=
  zar (zab [D.sl Tag.lent a0,D.fn (135:Nat) [] []]) fun r1=>
  asB r1 fun b2=>
  some (D.bool !b2)
theorem zqZ (zab:List D→Option D) (zai:List D→Option D) (tga0:Tag) (a0:List D):denP Try.prog (zaB [(ID.slices_ContainsFunc_byte_byte,(.pure [0] zab)),(ID.row_sectors_1,(.pure [0] zai))]) ziy [0] ID.row_sectors [.sl tga0 a0]=zhd zab zai (D.lentL a0):=by kernel_rfl
theorem zmP (tga0:Tag) (a0:List D):zbI [.sl tga0 a0]=zhd zab zai (D.lentL a0):=zqZ zab zai tga0 a0
def zmt:Ann:={ loops:=[(1,[.dead,.val (.cell (.int .i64)),.val (.cell .lent),.box true [(.int .i64),(.int .i64),(.int .i64)],.dead,.dead,.dead,.dead,.own 1,.dead,.dead,.dead,.dead,.dead,.dead,.dead,.dead,.dead,.dead,.dead,.dead,.dead,.dead,.dead,.dead,.dead,.dead,.dead,.dead,.dead,.dead,.dead,.val (.cell .lent),.val (.cell (.int .i64)),.val (.cell (.int .i64))])] }
noncomputable def zbs:List D→Option D:=denP Try.prog (zaB [(ID.row_in,(.pure [0] zb3)),(ID.geom_Width,(.pure [0] zaD)),(ID.row_sectors,(.pure [0] zbI)),(ID.place_Disk,(.pure [0] zaX)),(ID.slices_Clone_byte_byte,(.pure [1] zag)),(ID.place_Parity,(.pure [0,0] zax)),(ID.synd_P,(.pure [1] zbu)),(ID.synd_Q,(.pure [1] zbv))]) zmt [1,0] ID.row_Fill
theorem zoP:za5 Try.prog ID.row_Fill (.pure [1,0] zbs):=zaA (zaE [zoa,zfq,zmO,zir,zc4,zee,zj6,zj7]) zbz ⟨Try.f77,by kernel_rfl,by kernel_rfl,by kernel_rfl⟩
noncomputable def zq0:Fact Try.prog:=⟨ID.row_Fill,(.pure [1,0] zbs),zoP⟩
noncomputable def zlT (zb3:List D→Option D) (zaD:List D→Option D) (zbI:List D→Option D) (zaX:List D→Option D) (zag:List D→Option D) (zax:List D→Option D) (zbu:List D→Option D) (zbv:List D→Option D) (a0_0:Int) (a0_1:Int) (a0_2:Int) (a1:Int) (a2:List D):Option D:=
  zar (zb3 [D.agg [D.int IntKind.i64 a0_0,D.int IntKind.i64 a0_1,D.int IntKind.i64 a0_2],D.int IntKind.i64 a1]) fun r1=>
  asB r1 fun b2=>
  brK (!b2)
    (some (D.tup [D.sl Tag.own [],D.bool false]))
    (zar (zaD [D.agg [D.int IntKind.i64 a0_0,D.int IntKind.i64 a0_1,D.int IntKind.i64 a0_2]]) fun r3=>
    asI IntKind.i64 r3 fun i4=>
    brK ((↑(List.length a2):Int) != i4)
      (some (D.tup [D.sl Tag.own [],D.bool false]))
      (zar (zbI [D.sl Tag.lent a2]) fun r5=>
      asB r5 fun b6=>
      brK (!b6)
        (some (D.tup [D.sl Tag.own [],D.bool false]))
        (sif ((0:Int)≤a0_1) <|
        sif (a0_1=a0_1) <|
        sif (a0_1*(24:Int)≤(140737488355328:Int)) <|
        sif (a0_1≤(140737488355328:Int)) <|
        sif (Int.toNat a0_1=List.length (List.replicate (Int.toNat a0_1) (D.sl Tag.nil []))) <|
        zcR (α:=(Int×List D×(Int×Int×Int×PUnit)×List D×List D×Int×Int×PUnit)×PUnit) (fun again7 ((i8,(l9,((i10,(i11,(i12,_))),(l13,(l14,(i15,(i16,_))))))),_)=>
          brK (decide (i16 < i15))
            (sif ((0:Int)≤i16) <|
            getK l14 (Int.toNat i16) fun d17=>
            asSl d17 fun t18 l19=>
            zar (zaX [D.agg [D.int IntKind.i64 i10,D.int IntKind.i64 i11,D.int IntKind.i64 i12],D.int IntKind.i64 i8,D.int IntKind.i64 i16]) fun r20=>
            asI IntKind.i64 r20 fun i21=>
            zar (zag [D.sl t18 l19]) fun r22=>
            zbd r22 fun l23=>
            sif ((0:Int)≤i21) <|
            sif (Int.toNat i21 < List.length l13) <|
            sif ((0:Nat)+List.length l23≤List.length l23) <|
            getK l13 ((0:Nat)+Int.toNat i21) fun d24=>
            sif ((0:Nat)+List.length l23≤List.length l23) <|
            sif (D.isAgg d24=false) <|
            letN (IntKind.wrap IntKind.i64 (i16+(1:Int))) fun n25=>
            sif (List.length l13=List.length (List.set l13 ((0:Nat)+Int.toNat i21) (D.sl Tag.fresh (cut (0:Nat) (List.length l23) l23)))) <|
            again7 (((i8,l9,(i10,i11,i12,PUnit.unit),List.set l13 ((0:Nat)+Int.toNat i21) (D.sl Tag.fresh (cut (0:Nat) (List.length l23) l23)),l14,i15,n25,PUnit.unit),PUnit.unit)))
            (zar (zax [D.agg [D.int IntKind.i64 i10,D.int IntKind.i64 i11,D.int IntKind.i64 i12],D.int IntKind.i64 i8]) fun r26=>
            zeq r26 fun ts27=>
            zau ([Lf.any,Lf.any]) ts27 fun c28=>
            asI IntKind.i64 c28.fst fun i29=>
            asI IntKind.i64 c28.snd.fst fun i30=>
            zar (zbu [D.sl Tag.lent l9]) fun r31=>
            zbd r31 fun l32=>
            sif ((0:Int)≤i29) <|
            sif (Int.toNat i29 < List.length l13) <|
            sif ((0:Nat)+List.length l32≤List.length l32) <|
            getK l13 ((0:Nat)+Int.toNat i29) fun d33=>
            sif ((0:Nat)+List.length l32≤List.length l32) <|
            sif (D.isAgg d33=false) <|
            brK (decide (i30≥(0:Int)))
              (zar (zbv [D.sl Tag.lent l9]) fun r34=>
              zbd r34 fun l35=>
              sif ((0:Int)≤i30) <|
              sif (Int.toNat i30 < List.length l13) <|
              sif ((0:Nat)+List.length l35≤List.length l35) <|
              getK (List.set l13 ((0:Nat)+Int.toNat i29) (D.sl Tag.fresh (cut (0:Nat) (List.length l32) l32))) ((0:Nat)+Int.toNat i30) fun d36=>
              sif ((0:Nat)+List.length l35≤List.length l35) <|
              sif (D.isAgg d36=false) <|
              sif (List.length l13=List.length (List.set (List.set l13 ((0:Nat)+Int.toNat i29) (D.sl Tag.fresh (cut (0:Nat) (List.length l32) l32))) ((0:Nat)+Int.toNat i30) (D.sl Tag.fresh (cut (0:Nat) (List.length l35) l35)))) <|
              sif (List.all (List.set (List.set l13 ((0:Nat)+Int.toNat i29) (D.sl Tag.fresh (cut (0:Nat) (List.length l32) l32))) ((0:Nat)+Int.toNat i30) (D.sl Tag.fresh (cut (0:Nat) (List.length l35) l35))) D.free=true) <|
              some (D.tup [D.sl Tag.own (List.set (List.set l13 ((0:Nat)+Int.toNat i29) (D.sl Tag.fresh (cut (0:Nat) (List.length l32) l32))) ((0:Nat)+Int.toNat i30) (D.sl Tag.fresh (cut (0:Nat) (List.length l35) l35))),D.bool true]))
              (sif (List.length l13=List.length (List.set l13 ((0:Nat)+Int.toNat i29) (D.sl Tag.fresh (cut (0:Nat) (List.length l32) l32)))) <|
              sif (List.all (List.set l13 ((0:Nat)+Int.toNat i29) (D.sl Tag.fresh (cut (0:Nat) (List.length l32) l32))) D.free=true) <|
              some (D.tup [D.sl Tag.own (List.set l13 ((0:Nat)+Int.toNat i29) (D.sl Tag.fresh (cut (0:Nat) (List.length l32) l32))),D.bool true]))))
          (((a1,a2,(a0_0,a0_1,a0_2,PUnit.unit),List.replicate (Int.toNat a0_1) (D.sl Tag.nil []),a2,(↑(List.length a2):Int),(0:Int),PUnit.unit),PUnit.unit)))))
theorem zvr (zb3:List D→Option D) (zaD:List D→Option D) (zbI:List D→Option D) (zaX:List D→Option D) (zag:List D→Option D) (zax:List D→Option D) (zbu:List D→Option D) (zbv:List D→Option D) (tga2:Tag) (a0_0:Int) (a0_1:Int) (a0_2:Int) (a1:Int) (a2:List D):denP Try.prog (zaB [(ID.row_in,(.pure [0] zb3)),(ID.geom_Width,(.pure [0] zaD)),(ID.row_sectors,(.pure [0] zbI)),(ID.place_Disk,(.pure [0] zaX)),(ID.slices_Clone_byte_byte,(.pure [1] zag)),(ID.place_Parity,(.pure [0,0] zax)),(ID.synd_P,(.pure [1] zbu)),(ID.synd_Q,(.pure [1] zbv))]) zmt [1,0] ID.row_Fill [.agg [.int .i64 a0_0,.int .i64 a0_1,.int .i64 a0_2],.int .i64 a1,.sl tga2 a2]=zlT zb3 zaD zbI zaX zag zax zbu zbv a0_0 a0_1 a0_2 a1 (D.lentL a2):=by kernel_rfl
theorem zq1 (tga2:Tag) (a0_0:Int) (a0_1:Int) (a0_2:Int) (a1:Int) (a2:List D):zbs [.agg [.int .i64 a0_0,.int .i64 a0_1,.int .i64 a0_2],.int .i64 a1,.sl tga2 a2]=zlT zb3 zaD zbI zaX zag zax zbu zbv a0_0 a0_1 a0_2 a1 (D.lentL a2):=zvr zb3 zaD zbI zaX zag zax zbu zbv tga2 a0_0 a0_1 a0_2 a1 a2
def zb5:Ann:={ loops:=[] }
noncomputable def zaj:List D→Option D:=denE Try.prog (zaB []) zb5 [33] ID.slices_Clone_disk_write_disk_write
theorem zcV:za5 Try.prog ID.slices_Clone_disk_write_disk_write (.pure [33] zaj):=zpt (zaE []) zbz ⟨Try.f121,by kernel_rfl,by kernel_rfl,by kernel_rfl⟩
noncomputable def zc5:Fact Try.prog:=⟨ID.slices_Clone_disk_write_disk_write,(.pure [33] zaj),zcV⟩
noncomputable def zbG (a0:D) (b0:List D):Option D:=
  sif (List.length (a0::b0)≤(4294967296:Nat)) <|
  sif (zdq (33:Nat) (a0::b0)=true) <|
  sif (List.length (a0::b0)=List.length (a0::b0)) <|
  sif (List.all (a0::b0) D.free=true) <|
  some (D.sl Tag.own (a0::b0))
theorem zds (tga0:Tag) (a0:D) (b0:List D):denE Try.prog (zaB []) zb5 [33] ID.slices_Clone_disk_write_disk_write [.sl tga0 (a0::b0)]=zbG (D.lent a0) (D.lentL b0):=by kernel_rfl
theorem zc6 (tga0:Tag) (a0:D) (b0:List D):zaj [.sl tga0 (a0::b0)]=zbG (D.lent a0) (D.lentL b0):=zds tga0 a0 b0
theorem zcW (tg:Tag):zaj [.sl tg []]=some (.sl .own []):=(zmj (some (.sl .own [])))
def zfv:Ann:={ loops:=[],pubs:=[(2,[(3,119,7649)])],ks:=[(7649,true)] }
noncomputable def za9:List D→List Tb→Option Ans:=denS Try.prog (zaB [(ID.slices_Clone_disk_write_disk_write,(.pure [33] zaj))]) zfv [0] ID.disk_Disk_Clone
theorem ziz:za5 Try.prog ID.disk_Disk_Clone (.st [] [0] [(7649,true)] za9):=zbi (zaE [zc5]) zbz ⟨Try.f93,by kernel_rfl,by kernel_rfl,by kernel_rfl⟩
noncomputable def zji:Fact Try.prog:=⟨ID.disk_Disk_Clone,(.st [] [0] [(7649,true)] za9),ziz⟩
noncomputable def zeg (zaj:List D→Option D) (a0:Nat) (T0:Tb):Option Ans:=
  getK T0 a0 fun d1=>
  sif ((1666:Nat)≤List.length d1) <|
  sif (List.length (List.map D.hide (List.take (1666:Nat) (List.drop (0:Nat) d1)))=(1666:Nat)) <|
  getK T0 a0 fun d2=>
  getK d2 ((1664:Nat)) fun d3=>
  zbd d3 fun l4=>
  getK T0 a0 fun d5=>
  getK d5 ((1664:Nat)) fun d6=>
  zbd d6 fun l7=>
  sif ((0:Nat)+List.length l4≤List.length l7) <|
  zar (zaj [D.sl Tag.lent (cut (0:Nat) (List.length l4) l7)]) fun r8=>
  zbd r8 fun l9=>
  sif ((0:Nat)+List.length l9≤List.length l9) <|
  sif ((1664:Nat) < List.length (spl (0:Nat) (1666:Nat) (List.reverse ([D.bool false,D.sl Tag.nil []]++List.replicate 1664 (D.int IntKind.u8 (0:Int)))) (List.map D.hide (List.take (1666:Nat) (List.drop (0:Nat) d1))))) <|
  sif (some (1666:Nat)=some (List.length (spl (0:Nat) (1666:Nat) (List.reverse ([D.bool false,D.sl Tag.nil []]++List.replicate 1664 (D.int IntKind.u8 (0:Int)))) (List.map D.hide (List.take (1666:Nat) (List.drop (0:Nat) d1)))))) <|
  sif (List.length l9=List.length l9) <|
  sif (zcL l9=true) <|
  sif (zeJ (33:Nat) l9=true) <|
  sif (List.all (List.set (spl (0:Nat) (1666:Nat) (List.reverse ([D.bool false,D.sl Tag.nil []]++List.replicate 1664 (D.int IntKind.u8 (0:Int)))) (List.map D.hide (List.take (1666:Nat) (List.drop (0:Nat) d1)))) (1664:Nat) D.nilp) D.own0ok=true) <|
  sif ((true && decide ((1:Nat)=(1:Nat)) && List.all [(1664:Nat)] fun k=>decide (k < List.length (spl (0:Nat) (1666:Nat) (List.reverse ([D.bool false,D.sl Tag.nil []]++List.replicate 1664 (D.int IntKind.u8 (0:Int)))) (List.map D.hide (List.take (1666:Nat) (List.drop (0:Nat) d1))))))=true) <|
  letT (T0++[List.set (List.map D.own0 (spl (0:Nat) (1666:Nat) (List.reverse ([D.bool false,D.sl Tag.nil []]++List.replicate 1664 (D.int IntKind.u8 (0:Int)))) (List.map D.hide (List.take (1666:Nat) (List.drop (0:Nat) d1))))) (1664:Nat) (D.sl Tag.own l9)]) fun U10=>
  some (Ans.mk (D.h (7649:Nat) (List.length T0) (0:Nat)) [] [U10])
theorem zlU (zaj:List D→Option D) (a0:Nat) (T0:Tb):denS Try.prog (zaB [(ID.slices_Clone_disk_write_disk_write,(.pure [33] zaj))]) zfv [0] ID.disk_Disk_Clone [.h 7649 a0 0] [T0]=zeg zaj a0 T0:=by kernel_rfl
theorem zjj (a0:Nat) (T0:Tb):za9 [.h 7649 a0 0] [T0]=zeg zaj a0 T0:=zlU zaj a0 T0
def zgF:Ann:={ loops:=[],ks:=[(7649,false)] }
noncomputable def zbn:List D→List Tb→Option Ans:=denS Try.prog (zaB [(ID.disk_Disk_may,(.st [] [0] [(7649,false)] zaH))]) zgF [0,0] ID.disk_Disk_put
theorem zka:za5 Try.prog ID.disk_Disk_put (.st [] [0,0] [(7649,false)] zbn):=zbi (zaE [zfT]) zbz ⟨Try.f124,by kernel_rfl,by kernel_rfl,by kernel_rfl⟩
noncomputable def zk7:Fact Try.prog:=⟨ID.disk_Disk_put,(.st [] [0,0] [(7649,false)] zbn),zka⟩
noncomputable def zfw (zaH:List D→List Tb→Option Ans) (a0:Nat) (a1:Int) (a2:List D) (T0:Tb):Option Ans:=
  zar (zaH [D.h (7649:Nat) a0 (0:Nat),D.int IntKind.i64 a1] [T0]) fun r1=>
  nilK r1.outs <|
  nilK r1.tbs <|
  asI IntKind.i64 r1.r fun i2=>
  brK (i2 != (0:Int))
    (some (Ans.mk (D.tup [D.agg [D.int IntKind.i64 (0:Int),D.int IntKind.u8 (0:Int),D.int IntKind.u8 (0:Int),D.int IntKind.u8 (0:Int),D.int IntKind.u8 (0:Int),D.int IntKind.u8 (0:Int),D.int IntKind.u8 (0:Int),D.int IntKind.u8 (0:Int),D.int IntKind.u8 (0:Int),D.int IntKind.u8 (0:Int),D.int IntKind.u8 (0:Int),D.int IntKind.u8 (0:Int),D.int IntKind.u8 (0:Int),D.int IntKind.u8 (0:Int),D.int IntKind.u8 (0:Int),D.int IntKind.u8 (0:Int),D.int IntKind.u8 (0:Int),D.int IntKind.u8 (0:Int),D.int IntKind.u8 (0:Int),D.int IntKind.u8 (0:Int),D.int IntKind.u8 (0:Int),D.int IntKind.u8 (0:Int),D.int IntKind.u8 (0:Int),D.int IntKind.u8 (0:Int),D.int IntKind.u8 (0:Int),D.int IntKind.u8 (0:Int),D.int IntKind.u8 (0:Int),D.int IntKind.u8 (0:Int),D.int IntKind.u8 (0:Int),D.int IntKind.u8 (0:Int),D.int IntKind.u8 (0:Int),D.int IntKind.u8 (0:Int),D.int IntKind.u8 (0:Int)],D.int IntKind.i64 i2]) [] []))
    (brK ((↑(List.length a2):Int) != (32:Int))
      (some (Ans.mk (D.tup [D.agg [D.int IntKind.i64 (0:Int),D.int IntKind.u8 (0:Int),D.int IntKind.u8 (0:Int),D.int IntKind.u8 (0:Int),D.int IntKind.u8 (0:Int),D.int IntKind.u8 (0:Int),D.int IntKind.u8 (0:Int),D.int IntKind.u8 (0:Int),D.int IntKind.u8 (0:Int),D.int IntKind.u8 (0:Int),D.int IntKind.u8 (0:Int),D.int IntKind.u8 (0:Int),D.int IntKind.u8 (0:Int),D.int IntKind.u8 (0:Int),D.int IntKind.u8 (0:Int),D.int IntKind.u8 (0:Int),D.int IntKind.u8 (0:Int),D.int IntKind.u8 (0:Int),D.int IntKind.u8 (0:Int),D.int IntKind.u8 (0:Int),D.int IntKind.u8 (0:Int),D.int IntKind.u8 (0:Int),D.int IntKind.u8 (0:Int),D.int IntKind.u8 (0:Int),D.int IntKind.u8 (0:Int),D.int IntKind.u8 (0:Int),D.int IntKind.u8 (0:Int),D.int IntKind.u8 (0:Int),D.int IntKind.u8 (0:Int),D.int IntKind.u8 (0:Int),D.int IntKind.u8 (0:Int),D.int IntKind.u8 (0:Int),D.int IntKind.u8 (0:Int)],D.int IntKind.i64 (1:Int)]) [] []))
      (sif (cells a2=true) <|
      sif (List.length a2=(32:Nat)) <|
      sif ((33:Nat)≤List.length ([D.int IntKind.i64 a1]++(a2++[]))) <|
      zau ([Lf.int IntKind.i64,Lf.arr (32)]) (List.take (33:Nat) (List.drop (0:Nat) ([D.int IntKind.i64 a1]++(a2++[])))) fun c3=>
      sif (List.length ([D.int IntKind.i64 c3.fst]++(c3.snd.fst++[]))=(33:Nat)) <|
      sif ((33:Nat)≤List.length ([D.int IntKind.i64 c3.fst]++(c3.snd.fst++[]))) <|
      zau ([Lf.int IntKind.i64,Lf.arr (32)]) (List.take (33:Nat) (List.drop (0:Nat) ([D.int IntKind.i64 c3.fst]++(c3.snd.fst++[])))) fun c4=>
      sif (D.free (D.agg ([D.int IntKind.i64 c4.fst]++(c4.snd.fst++[])))=true) <|
      some (Ans.mk (D.tup [D.agg ([D.int IntKind.i64 c4.fst]++(c4.snd.fst++[])),D.int IntKind.i64 (0:Int)]) [] [])))
theorem zon (zaH:List D→List Tb→Option Ans) (tga2:Tag) (a0:Nat) (a1:Int) (a2:List D) (T0:Tb):denS Try.prog (zaB [(ID.disk_Disk_may,(.st [] [0] [(7649,false)] zaH))]) zgF [0,0] ID.disk_Disk_put [.h 7649 a0 0,.int .i64 a1,.sl tga2 a2] [T0]=zfw zaH a0 a1 (D.lentL a2) T0:=by kernel_rfl
theorem zk8 (tga2:Tag) (a0:Nat) (a1:Int) (a2:List D) (T0:Tb):zbn [.h 7649 a0 0,.int .i64 a1,.sl tga2 a2] [T0]=zfw zaH a0 a1 (D.lentL a2) T0:=zon zaH tga2 a0 a1 a2 T0
def zfx:Ann:={ loops:=[],ks:=[(7649,true)] }
noncomputable def zaZ:List D→List Tb→Option Ans:=denS Try.prog (zaB [(ID.disk_Disk_put,(.st [] [0,0] [(7649,false)] zbn))]) zfx [0] ID.disk_Disk_Write
theorem ziA:za5 Try.prog ID.disk_Disk_Write (.st [] [0] [(7649,true)] zaZ):=zbi (zaE [zk7]) zbz ⟨Try.f112,by kernel_rfl,by kernel_rfl,by kernel_rfl⟩
noncomputable def zjk:Fact Try.prog:=⟨ID.disk_Disk_Write,(.st [] [0] [(7649,true)] zaZ),ziA⟩
noncomputable def zeh (zbn:List D→List Tb→Option Ans) (a0:Nat) (a1:Int) (a2:List D) (T0:Tb):Option Ans:=
  zar (zbn [D.h (7649:Nat) a0 (0:Nat),D.int IntKind.i64 a1,D.sl Tag.lent a2] [T0]) fun r1=>
  nilK r1.outs <|
  nilK r1.tbs <|
  zeq r1.r fun ts2=>
  zau ([Lf.any,Lf.any]) ts2 fun c3=>
  asAgg c3.fst fun cs4=>
  zau ([Lf.int IntKind.i64,Lf.arr (32)]) cs4 fun c5=>
  asI IntKind.i64 c3.snd.fst fun i6=>
  sif (List.length ([D.int IntKind.i64 c5.fst]++(c5.snd.fst++[]))=(33:Nat)) <|
  brK (i6 == (0:Int))
    (getK T0 a0 fun d7=>
    getK d7 ((1664:Nat)) fun d8=>
    zbd d8 fun l9=>
    sif ((33:Nat)≤List.length ([D.int IntKind.i64 c5.fst]++(c5.snd.fst++[]))) <|
    zau ([Lf.int IntKind.i64,Lf.arr (32)]) (List.take (33:Nat) (List.drop (0:Nat) ([D.int IntKind.i64 c5.fst]++(c5.snd.fst++[])))) fun c10=>
    sif (zdq (33:Nat) [D.agg ([D.int IntKind.i64 c10.fst]++(c10.snd.fst++[]))]=true) <|
    getK T0 a0 fun d11=>
    getK d11 ((1664:Nat)) fun d12=>
    zbd d12 fun l13=>
    sif (List.length l9+(1:Nat)≤(4294967296:Nat)) <|
    sif (zdq (33:Nat) [D.agg ([D.int IntKind.i64 c10.fst]++(c10.snd.fst++[]))]=true) <|
    sif (List.length l9=List.length l13) <|
    letT (setT T0 a0 (1664:Nat) D.undef) fun U14=>
    getK U14 a0 fun d15=>
    sif ((1665:Nat)≤List.length d15) <|
    sif (List.length l9+(1:Nat)=List.length (l13++[D.agg ([D.int IntKind.i64 c10.fst]++(c10.snd.fst++[]))])) <|
    sif (zcL (l13++[D.agg ([D.int IntKind.i64 c10.fst]++(c10.snd.fst++[]))])=true) <|
    sif (zeJ (33:Nat) (l13++[D.agg ([D.int IntKind.i64 c10.fst]++(c10.snd.fst++[]))])=true) <|
    letT (zaN U14 a0 (1664:Nat) [D.sl Tag.own (l13++[D.agg ([D.int IntKind.i64 c10.fst]++(c10.snd.fst++[]))])]) fun U16=>
    some (Ans.mk (D.int IntKind.i64 i6) [] [U16]))
    (some (Ans.mk (D.int IntKind.i64 i6) [] [T0]))
theorem zlV (zbn:List D→List Tb→Option Ans) (tga2:Tag) (a0:Nat) (a1:Int) (a2:List D) (T0:Tb):denS Try.prog (zaB [(ID.disk_Disk_put,(.st [] [0,0] [(7649,false)] zbn))]) zfx [0] ID.disk_Disk_Write [.h 7649 a0 0,.int .i64 a1,.sl tga2 a2] [T0]=zeh zbn a0 a1 (D.lentL a2) T0:=by kernel_rfl
theorem zjl (tga2:Tag) (a0:Nat) (a1:Int) (a2:List D) (T0:Tb):zaZ [.h 7649 a0 0,.int .i64 a1,.sl tga2 a2] [T0]=zeh zbn a0 a1 (D.lentL a2) T0:=zlV zbn tga2 a0 a1 a2 T0
def zdY:Ann:={ loops:=[],ks:=[(3840,true)] }
noncomputable def zaL:List D→List Tb→Option Ans:=denS Try.prog (zaB []) zdY [0] ID.bench_counter_count
theorem zf9:za5 Try.prog ID.bench_counter_count (.st [] [0] [(3840,true)] zaL):=zbi (zaE []) zbz ⟨Try.f113,by kernel_rfl,by kernel_rfl,by kernel_rfl⟩
noncomputable def zgG:Fact Try.prog:=⟨ID.bench_counter_count,(.st [] [0] [(3840,true)] zaL),zf9⟩
noncomputable def zc7 (a0:Nat) (T0:Tb):Option Ans:=
  getK T0 a0 fun d1=>
  getK d1 ((1:Nat)) fun d2=>
  asI IntKind.i64 d2 fun i3=>
  brK (i3 == (0:Int))
    (getK T0 a0 fun d4=>
    sif ((3:Nat)≤List.length d4) <|
    sif (zgV (List.take (1:Nat) (List.drop (2:Nat) d4))=true) <|
    letT (zaN T0 a0 (2:Nat) [D.bool true]) fun U5=>
    some (Ans.mk (D.bool false) [] [U5]))
    (getK T0 a0 fun d6=>
    getK d6 ((1:Nat)) fun d7=>
    asI IntKind.i64 d7 fun i8=>
    brK (decide (i8 > (0:Int)))
      (getK T0 a0 fun d9=>
      getK d9 ((1:Nat)) fun d10=>
      asI IntKind.i64 d10 fun i11=>
      letN (IntKind.wrap IntKind.i64 (i11 - (1:Int))) fun n12=>
      getK T0 a0 fun d13=>
      sif ((2:Nat)≤List.length d13) <|
      sif (zgV (List.take (1:Nat) (List.drop (1:Nat) d13))=true) <|
      letT (zaN T0 a0 (1:Nat) [D.int IntKind.i64 n12]) fun U14=>
      getK U14 a0 fun d15=>
      getK d15 ((0:Nat)) fun d16=>
      asI IntKind.i64 d16 fun i17=>
      letN (IntKind.wrap IntKind.i64 (i17+(1:Int))) fun n18=>
      getK U14 a0 fun d19=>
      sif ((1:Nat)≤List.length d19) <|
      sif (zgV (List.take (1:Nat) (List.drop (0:Nat) d19))=true) <|
      letT (zaN U14 a0 (0:Nat) [D.int IntKind.i64 n18]) fun U20=>
      some (Ans.mk (D.bool true) [] [U20]))
      (getK T0 a0 fun d21=>
      getK d21 ((0:Nat)) fun d22=>
      asI IntKind.i64 d22 fun i23=>
      letN (IntKind.wrap IntKind.i64 (i23+(1:Int))) fun n24=>
      getK T0 a0 fun d25=>
      sif ((1:Nat)≤List.length d25) <|
      sif (zgV (List.take (1:Nat) (List.drop (0:Nat) d25))=true) <|
      letT (zaN T0 a0 (0:Nat) [D.int IntKind.i64 n24]) fun U26=>
      some (Ans.mk (D.bool true) [] [U26])))
theorem ziB (a0:Nat) (T0:Tb):denS Try.prog (zaB []) zdY [0] ID.bench_counter_count [.h 3840 a0 0] [T0]=zc7 a0 T0:=by kernel_rfl
theorem zgH (a0:Nat) (T0:Tb):zaL [.h 3840 a0 0] [T0]=zc7 a0 T0:=ziB a0 T0
def zex:Ann:={ loops:=[],ks:=[(3840,true),(7649,true)] }
noncomputable def zav:List D→List Tb→Option Ans:=denS Try.prog (zaB [(ID.bench_Bench_may,(.st [] [0] [(3840,false)] zal)),(ID.disk_Disk_Clone,(.st [] [0] [(7649,true)] za9)),(ID.disk_Disk_Write,(.st [] [0] [(7649,true)] zaZ)),(ID.bench_counter_count,(.st [] [0] [(3840,true)] zaL))]) zex [0] ID.bench_Bench_Write
theorem zhe:za5 Try.prog ID.bench_Bench_Write (.st [] [0] [(3840,true),(7649,true)] zav):=zbi (zaE [zdm,zji,zjk,zgG]) zbz ⟨Try.f78,by kernel_rfl,by kernel_rfl,by kernel_rfl⟩
noncomputable def zhE:Fact Try.prog:=⟨ID.bench_Bench_Write,(.st [] [0] [(3840,true),(7649,true)] zav),zhe⟩
noncomputable def zdF (zal:List D→List Tb→Option Ans) (za9:List D→List Tb→Option Ans) (zaZ:List D→List Tb→Option Ans) (zaL:List D→List Tb→Option Ans) (a0:Nat) (a1:Int) (a2:Int) (a3:List D) (T0:Tb) (T1:Tb):Option Ans:=
  zar (zal [D.h (3840:Nat) a0 (0:Nat),D.int IntKind.i64 a1] [T0]) fun r1=>
  nilK r1.outs <|
  nilK r1.tbs <|
  asI IntKind.i64 r1.r fun i2=>
  brK (i2 != (0:Int))
    (some (Ans.mk (D.int IntKind.i64 i2) [] [T0,T1]))
    (getK T0 a0 fun d3=>
    getK d3 ((3:Nat)) fun d4=>
    zbd d4 fun l5=>
    getK T0 a0 fun d6=>
    getK d6 ((3:Nat)) fun d7=>
    zbd d7 fun l8=>
    sif ((0:Int)≤a1) <|
    sif (Int.toNat a1 < List.length l5) <|
    getK T0 a0 fun d9=>
    getK d9 ((3:Nat)) fun d10=>
    zbd d10 fun l11=>
    getK l11 ((0:Nat)+Int.toNat a1) fun d12=>
    sif (D.isAgg d12=false) <|
    sif (D.width d12=(1:Nat)) <|
    sif (D.cell d12=true) <|
    zar (za9 [d12] [T1]) fun r13=>
    nilK r13.outs <|
    zbF r13.tbs fun c14 q15=>
    nilK q15 <|
    sif (zjs r13.r=true) <|
    zar (zaZ [r13.r,D.int IntKind.i64 a2,D.sl Tag.lent a3] [c14]) fun r16=>
    nilK r16.outs <|
    zbF r16.tbs fun c17 q18=>
    nilK q18 <|
    asI IntKind.i64 r16.r fun i19=>
    brK (i19 != (0:Int))
      (some (Ans.mk (D.int IntKind.i64 i19) [] [T0,c17]))
      (zar (zaL [D.h (3840:Nat) a0 (0:Nat)] [T0]) fun r20=>
      nilK r20.outs <|
      zbF r20.tbs fun c21 q22=>
      nilK q22 <|
      asB r20.r fun b23=>
      brK (!b23)
        (some (Ans.mk (D.int IntKind.i64 (6:Int)) [] [c21,c17]))
        (getK c21 a0 fun d24=>
        getK d24 ((3:Nat)) fun d25=>
        zbd d25 fun l26=>
        getK c21 a0 fun d27=>
        getK d27 ((3:Nat)) fun d28=>
        zbd d28 fun l29=>
        sif ((0:Int)≤a1) <|
        sif (Int.toNat a1 < List.length l26) <|
        getK c21 a0 fun d30=>
        getK d30 ((3:Nat)) fun d31=>
        zbd d31 fun l32=>
        getK l32 ((0:Nat)+Int.toNat a1) fun d33=>
        sif (D.isAgg d33=false) <|
        sif (D.width d33=(1:Nat)) <|
        sif (D.cell d33=true) <|
        zar (zaZ [d33,D.int IntKind.i64 a2,D.sl Tag.lent a3] [c17]) fun r34=>
        nilK r34.outs <|
        zbF r34.tbs fun c35 q36=>
        nilK q36 <|
        asI IntKind.i64 r34.r fun i37=>
        some (Ans.mk (D.int IntKind.i64 i37) [] [c21,c35]))))
theorem zkb (zal:List D→List Tb→Option Ans) (za9:List D→List Tb→Option Ans) (zaZ:List D→List Tb→Option Ans) (zaL:List D→List Tb→Option Ans) (tga3:Tag) (a0:Nat) (a1:Int) (a2:Int) (a3:List D) (T0:Tb) (T1:Tb):denS Try.prog (zaB [(ID.bench_Bench_may,(.st [] [0] [(3840,false)] zal)),(ID.disk_Disk_Clone,(.st [] [0] [(7649,true)] za9)),(ID.disk_Disk_Write,(.st [] [0] [(7649,true)] zaZ)),(ID.bench_counter_count,(.st [] [0] [(3840,true)] zaL))]) zex [0] ID.bench_Bench_Write [.h 3840 a0 0,.int .i64 a1,.int .i64 a2,.sl tga3 a3] [T0,T1]=zdF zal za9 zaZ zaL a0 a1 a2 (D.lentL a3) T0 T1:=by kernel_rfl
theorem zhF (tga3:Tag) (a0:Nat) (a1:Int) (a2:Int) (a3:List D) (T0:Tb) (T1:Tb):zav [.h 3840 a0 0,.int .i64 a1,.int .i64 a2,.sl tga3 a3] [T0,T1]=zdF zal za9 zaZ zaL a0 a1 a2 (D.lentL a3) T0 T1:=zkb zal za9 zaZ zaL tga3 a0 a1 a2 a3 T0 T1
def ziC:Ann:={ loops:=[],ks:=[(3840,true),(7649,true)] }
noncomputable def zbc:List D→List Tb→Option Ans:=denS Try.prog (zaB [(ID.stripe_Read,(.st [] [1,0] [(3840,false),(7649,false)] zbH)),(ID.row_Fill,(.pure [1,0] zbs)),(ID.bench_Bench_Write,(.st [] [0] [(3840,true),(7649,true)] zav))]) ziC [0] ID.rebuild_one
theorem zlW:za5 Try.prog ID.rebuild_one (.st [] [0] [(3840,true),(7649,true)] zbc):=zbi (zaE [zmM,zq0,zhE]) zbz ⟨Try.f92,by kernel_rfl,by kernel_rfl,by kernel_rfl⟩
noncomputable def zmQ:Fact Try.prog:=⟨ID.rebuild_one,(.st [] [0] [(3840,true),(7649,true)] zbc),zlW⟩
noncomputable def zhf (zbH:List D→List Tb→Option Ans) (zbs:List D→Option D) (zav:List D→List Tb→Option Ans) (a0:Nat) (a1:List D) (a2:Int) (a3_0:Int) (a3_1:Int) (a3_2:Int) (a4:Int) (T0:Tb) (T1:Tb):Option Ans:=
  zar (zbH [D.h (3840:Nat) a0 (0:Nat),D.sl Tag.lent a1,D.agg [D.int IntKind.i64 a3_0,D.int IntKind.i64 a3_1,D.int IntKind.i64 a3_2],D.int IntKind.i64 a4] [T0,T1]) fun r1=>
  nilK r1.outs <|
  nilK r1.tbs <|
  zeq r1.r fun ts2=>
  zau ([Lf.any,Lf.any]) ts2 fun c3=>
  zbd c3.fst fun l4=>
  asI IntKind.i64 c3.snd.fst fun i5=>
  brK (i5 != (0:Int))
    (some (Ans.mk (D.int IntKind.i64 i5) [] [T0,T1]))
    (sif ((0:Nat)+List.length l4≤List.length l4) <|
    zar (zbs [D.agg [D.int IntKind.i64 a3_0,D.int IntKind.i64 a3_1,D.int IntKind.i64 a3_2],D.int IntKind.i64 a4,D.sl Tag.lent (cut (0:Nat) (List.length l4) l4)]) fun r6=>
    zeq r6 fun ts7=>
    zau ([Lf.any,Lf.any]) ts7 fun c8=>
    zbd c8.fst fun l9=>
    asB c8.snd.fst fun b10=>
    letN (IntKind.wrap IntKind.i64 ((36:Int)+a4)) fun n11=>
    sif ((0:Int)≤a2) <|
    sif (Int.toNat a2 < List.length l9) <|
    getK l9 ((0:Nat)+Int.toNat a2) fun d12=>
    asSl d12 fun t13 l14=>
    zar (zav [D.h (3840:Nat) a0 (0:Nat),D.int IntKind.i64 a2,D.int IntKind.i64 n11,D.sl t13 l14] [T0,T1]) fun r15=>
    nilK r15.outs <|
    zbF r15.tbs fun c16 q17=>
    zbF q17 fun c18 q19=>
    nilK q19 <|
    asI IntKind.i64 r15.r fun i20=>
    some (Ans.mk (D.int IntKind.i64 i20) [] [c16,c18]))
theorem zq2 (zbH:List D→List Tb→Option Ans) (zbs:List D→Option D) (zav:List D→List Tb→Option Ans) (tga1:Tag) (a0:Nat) (a1:List D) (a2:Int) (a3_0:Int) (a3_1:Int) (a3_2:Int) (a4:Int) (T0:Tb) (T1:Tb):denS Try.prog (zaB [(ID.stripe_Read,(.st [] [1,0] [(3840,false),(7649,false)] zbH)),(ID.row_Fill,(.pure [1,0] zbs)),(ID.bench_Bench_Write,(.st [] [0] [(3840,true),(7649,true)] zav))]) ziC [0] ID.rebuild_one [.h 3840 a0 0,.sl tga1 a1,.int .i64 a2,.agg [.int .i64 a3_0,.int .i64 a3_1,.int .i64 a3_2],.int .i64 a4] [T0,T1]=zhf zbH zbs zav a0 (D.lentL a1) a2 a3_0 a3_1 a3_2 a4 T0 T1:=by kernel_rfl
theorem zmR (tga1:Tag) (a0:Nat) (a1:List D) (a2:Int) (a3_0:Int) (a3_1:Int) (a3_2:Int) (a4:Int) (T0:Tb) (T1:Tb):zbc [.h 3840 a0 0,.sl tga1 a1,.int .i64 a2,.agg [.int .i64 a3_0,.int .i64 a3_1,.int .i64 a3_2],.int .i64 a4] [T0,T1]=zhf zbH zbs zav a0 (D.lentL a1) a2 a3_0 a3_1 a3_2 a4 T0 T1:=zq2 zbH zbs zav tga1 a0 a1 a2 a3_0 a3_1 a3_2 a4 T0 T1
def zfy:Ann:={ loops:=[(1,[.val (.cell (.hnd (7649:Nat))),.dead,.dead,.dead,.dead,.dead,.dead,.dead,.dead,.dead,.dead,.dead,.view 7649 1664,.val (.cell (.int .i64)),.val (.cell (.int .i64))])],ks:=[(7649,true)] }
noncomputable def zba:List D→List Tb→Option Ans:=denS Try.prog (zaB []) zfy [0] ID.disk_Disk_Flush
theorem ziD:za5 Try.prog ID.disk_Disk_Flush (.st [] [0] [(7649,true)] zba):=zbi (zaE []) zbz ⟨Try.f114,by kernel_rfl,by kernel_rfl,by kernel_rfl⟩
noncomputable def zjm:Fact Try.prog:=⟨ID.disk_Disk_Flush,(.st [] [0] [(7649,true)] zba),ziD⟩
noncomputable def zei (a0:Nat) (T0:Tb):Option Ans:=
  getK T0 a0 fun d1=>
  getK d1 ((1665:Nat)) fun d2=>
  asB d2 fun b3=>
  brK b3
    (some (Ans.mk (D.int IntKind.i64 (5:Int)) [] [T0]))
    (getK T0 a0 fun d4=>
    getK d4 ((1664:Nat)) fun d5=>
    zbd d5 fun l6=>
    getK T0 a0 fun d7=>
    getK d7 ((1664:Nat)) fun d8=>
    zbd d8 fun l9=>
    sif ((0:Nat)+List.length l6≤List.length l9) <|
    zcR (α:=(Nat×(Nat×Nat×Nat)×Int×Int×PUnit)×List (List D)×PUnit) (fun again10 ((x11,((x12,(x13,x14)),(i15,(i16,_)))),(U17,_))=>
      brK (decide (i16 < i15))
        (getK U17 x12 fun d18=>
        getK d18 ((1664:Nat)) fun d19=>
        zbd d19 fun l20=>
        sif ((0:Int)≤i16) <|
        sif (Int.toNat i16 < x14) <|
        getK U17 x12 fun d21=>
        getK d21 ((1664:Nat)) fun d22=>
        zbd d22 fun l23=>
        getK l23 (x13+Int.toNat i16) fun d24=>
        asAgg d24 fun cs25=>
        zau ([Lf.int IntKind.i64,Lf.arr (32)]) cs25 fun c26=>
        sif (D.width (D.agg ([D.int IntKind.i64 c26.fst]++(c26.snd.fst++[])))=(33:Nat)) <|
        sif (List.length ([D.int IntKind.i64 c26.fst]++(c26.snd.fst++[]))=(33:Nat)) <|
        sif ((33:Nat)≤List.length ([D.int IntKind.i64 c26.fst]++(c26.snd.fst++[]))) <|
        sif (List.length (List.take (32:Nat) (List.drop (1:Nat) ([D.int IntKind.i64 c26.fst]++(c26.snd.fst++[]))))=(32:Nat)) <|
        sif ((0:Int)≤c26.fst) <|
        sif (Int.toNat c26.fst < (52:Nat)) <|
        getK U17 x11 fun d27=>
        sif ((0:Nat)+Int.toNat c26.fst*(32:Nat)+(32:Nat)≤List.length d27) <|
        sif (List.length (List.take (32:Nat) (List.drop (1:Nat) ([D.int IntKind.i64 c26.fst]++(c26.snd.fst++[]))))=(32:Nat)) <|
        sif (zgV (List.take (32:Nat) (List.drop (1:Nat) ([D.int IntKind.i64 c26.fst]++(c26.snd.fst++[]))))=true) <|
        sif (zgV (List.take (32:Nat) (List.drop ((0:Nat)+Int.toNat c26.fst*(32:Nat)) d27))=true) <|
        letT (zaN U17 x11 ((0:Nat)+Int.toNat c26.fst*(32:Nat)) (List.take (32:Nat) (List.drop (1:Nat) ([D.int IntKind.i64 c26.fst]++(c26.snd.fst++[]))))) fun U28=>
        letN (IntKind.wrap IntKind.i64 (i16+(1:Int))) fun n29=>
        again10 (((x11,(x12,x13,x14),i15,n29,PUnit.unit),U28,PUnit.unit)))
        (getK U17 x11 fun d30=>
        sif ((1665:Nat)≤List.length d30) <|
        letT (zaN U17 x11 (1664:Nat) [D.sl Tag.own []]) fun U31=>
        some (Ans.mk (D.int IntKind.i64 (0:Int)) [] [U31])))
      (((a0,(a0,(0:Nat),List.length l6),(↑(List.length l6):Int),(0:Int),PUnit.unit),T0,PUnit.unit)))
theorem zlX (a0:Nat) (T0:Tb):denS Try.prog (zaB []) zfy [0] ID.disk_Disk_Flush [.h 7649 a0 0] [T0]=zei a0 T0:=by kernel_rfl
theorem zjn (a0:Nat) (T0:Tb):zba [.h 7649 a0 0] [T0]=zei a0 T0:=zlX a0 T0
def zey:Ann:={ loops:=[],ks:=[(3840,false),(7649,true)] }
noncomputable def zaq:List D→List Tb→Option Ans:=denS Try.prog (zaB [(ID.bench_Bench_may,(.st [] [0] [(3840,false)] zal)),(ID.disk_Disk_Flush,(.st [] [0] [(7649,true)] zba))]) zey [0] ID.bench_Bench_Flush
theorem zhg:za5 Try.prog ID.bench_Bench_Flush (.st [] [0] [(3840,false),(7649,true)] zaq):=zbi (zaE [zdm,zjm]) zbz ⟨Try.f79,by kernel_rfl,by kernel_rfl,by kernel_rfl⟩
noncomputable def zhG:Fact Try.prog:=⟨ID.bench_Bench_Flush,(.st [] [0] [(3840,false),(7649,true)] zaq),zhg⟩
noncomputable def zdG (zal:List D→List Tb→Option Ans) (zba:List D→List Tb→Option Ans) (a0:Nat) (a1:Int) (T0:Tb) (T1:Tb):Option Ans:=
  zar (zal [D.h (3840:Nat) a0 (0:Nat),D.int IntKind.i64 a1] [T0]) fun r1=>
  nilK r1.outs <|
  nilK r1.tbs <|
  asI IntKind.i64 r1.r fun i2=>
  brK (i2 != (0:Int))
    (some (Ans.mk (D.int IntKind.i64 i2) [] [T1]))
    (getK T0 a0 fun d3=>
    getK d3 ((3:Nat)) fun d4=>
    zbd d4 fun l5=>
    getK T0 a0 fun d6=>
    getK d6 ((3:Nat)) fun d7=>
    zbd d7 fun l8=>
    sif ((0:Int)≤a1) <|
    sif (Int.toNat a1 < List.length l5) <|
    getK T0 a0 fun d9=>
    getK d9 ((3:Nat)) fun d10=>
    zbd d10 fun l11=>
    getK l11 ((0:Nat)+Int.toNat a1) fun d12=>
    sif (D.isAgg d12=false) <|
    sif (D.width d12=(1:Nat)) <|
    sif (D.cell d12=true) <|
    zar (zba [d12] [T1]) fun r13=>
    nilK r13.outs <|
    zbF r13.tbs fun c14 q15=>
    nilK q15 <|
    asI IntKind.i64 r13.r fun i16=>
    some (Ans.mk (D.int IntKind.i64 i16) [] [c14]))
theorem zkc (zal:List D→List Tb→Option Ans) (zba:List D→List Tb→Option Ans) (a0:Nat) (a1:Int) (T0:Tb) (T1:Tb):denS Try.prog (zaB [(ID.bench_Bench_may,(.st [] [0] [(3840,false)] zal)),(ID.disk_Disk_Flush,(.st [] [0] [(7649,true)] zba))]) zey [0] ID.bench_Bench_Flush [.h 3840 a0 0,.int .i64 a1] [T0,T1]=zdG zal zba a0 a1 T0 T1:=by kernel_rfl
theorem zhH (a0:Nat) (a1:Int) (T0:Tb) (T1:Tb):zaq [.h 3840 a0 0,.int .i64 a1] [T0,T1]=zdG zal zba a0 a1 T0 T1:=zkc zal zba a0 a1 T0 T1
def zhr:Ann:={ loops:=[(2,[.val (.cell (.hnd (3840:Nat))),.val (.cell .lent),.val (.cell (.int .i64)),.dead,.dead,.val (.cell (.int .i64)),.dead,.dead,.dead,.box true [(.int .i64),(.int .i64),(.int .i64)],.box true [(.int .i64),(.int .i64),(.int .i64)],.dead,.dead,.dead,.dead,.dead,.dead,.dead,.dead,.dead,.dead,.dead,.dead,.dead,.dead,.dead,.dead,.dead,.dead,.dead,.dead,.dead,.dead,.dead,.dead,.dead,.dead,.dead,.dead,.dead,.dead,.dead,.dead,.dead,.dead,.dead,.dead,.dead,.val (.cell (.int .i64))])],ks:=[(3840,true),(7649,true)] }
noncomputable def zam:List D→List Tb→Option Ans:=denS Try.prog (zaB [(ID.bench_Bench_Len,(.st [] [0] [(3840,false)] zak)),(ID.rebuild_may,(.pure [0] zbx)),(ID.bench_Bench_Failed,(.st [] [0] [(3840,false),(7649,false)] zao)),(ID.rebuild_one,(.st [] [0] [(3840,true),(7649,true)] zbc)),(ID.bench_Bench_Flush,(.st [] [0] [(3840,false),(7649,true)] zaq))]) zhr [0] ID.rebuild_Disk
theorem zk9:za5 Try.prog ID.rebuild_Disk (.st [] [0] [(3840,true),(7649,true)] zam):=zbi (zaE [zeK,zmz,zdV,zmQ,zhG]) zbz ⟨Try.f48,by kernel_rfl,by kernel_rfl,by kernel_rfl⟩
noncomputable def zgI:Fact Try.prog:=⟨ID.rebuild_Disk,(.st [] [0] [(3840,true),(7649,true)] zam),zk9⟩
noncomputable def zga (zak:List D→List Tb→Option Ans) (zbx:List D→Option D) (zao:List D→List Tb→Option Ans) (zbc:List D→List Tb→Option Ans) (zaq:List D→List Tb→Option Ans) (a0:Nat) (a1:List D) (a2:Int) (a3_0:Int) (a3_1:Int) (a3_2:Int) (a4_0:Int) (a4_1:Int) (a4_2:Int) (a5:Int) (T0:Tb) (T1:Tb):Option Ans:=
  brK (decide (a2 < (0:Int)))
    (some (Ans.mk (D.int IntKind.i64 (1:Int)) [] [T0,T1]))
    (zar (zak [D.h (3840:Nat) a0 (0:Nat)] [T0]) fun r1=>
    nilK r1.outs <|
    nilK r1.tbs <|
    asI IntKind.i64 r1.r fun i2=>
    brK (decide (a2≥i2))
      (some (Ans.mk (D.int IntKind.i64 (1:Int)) [] [T0,T1]))
      (brK (decide (a2 < (↑(List.length a1):Int)))
        (sif ((0:Int)≤a2) <|
        getK a1 (Int.toNat a2) fun d3=>
        asB d3 fun b4=>
        brK b4
          (some (Ans.mk (D.int IntKind.i64 (1:Int)) [] [T0,T1]))
          (zar (zbx [D.agg [D.int IntKind.i64 a3_0,D.int IntKind.i64 a3_1,D.int IntKind.i64 a3_2],D.agg [D.int IntKind.i64 a4_0,D.int IntKind.i64 a4_1,D.int IntKind.i64 a4_2],D.int IntKind.i64 a5]) fun r5=>
          asB r5 fun b6=>
          brK (!b6)
            (some (Ans.mk (D.int IntKind.i64 (1:Int)) [] [T0,T1]))
            (zar (zao [D.h (3840:Nat) a0 (0:Nat),D.int IntKind.i64 a2] [T0,T1]) fun r7=>
            nilK r7.outs <|
            nilK r7.tbs <|
            asB r7.r fun b8=>
            brK b8
              (some (Ans.mk (D.int IntKind.i64 (5:Int)) [] [T0,T1]))
              (zcR (α:=(Nat×List D×Int×Int×(Int×Int×Int×PUnit)×(Int×Int×Int×PUnit)×Int×PUnit)×List (List D)×List (List D)×PUnit) (fun again9 ((x10,(l11,(i12,(i13,((i14,(i15,(i16,_))),((i17,(i18,(i19,_))),(i20,_))))))),(U21,(U22,_)))=>
                brK (decide (i20 < (16:Int)))
                  (brK (decide (i20 < i13))
                    (brK (decide (i12≥i18))
                      (letN (IntKind.wrap IntKind.i64 (i20+(1:Int))) fun n23=>
                      again9 (((x10,l11,i12,i13,(i14,i15,i16,PUnit.unit),(i17,i18,i19,PUnit.unit),n23,PUnit.unit),U21,U22,PUnit.unit)))
                      (zar (zbc [D.h (3840) x10 (0:Nat),D.sl Tag.lent l11,D.int IntKind.i64 i12,D.agg [D.int IntKind.i64 i17,D.int IntKind.i64 i18,D.int IntKind.i64 i19],D.int IntKind.i64 i20] [U21,U22]) fun r24=>
                      nilK r24.outs <|
                      zbF r24.tbs fun c25 q26=>
                      zbF q26 fun c27 q28=>
                      nilK q28 <|
                      asI IntKind.i64 r24.r fun i29=>
                      brK (i29 != (0:Int))
                        (some (Ans.mk (D.int IntKind.i64 i29) [] [c25,c27]))
                        (letN (IntKind.wrap IntKind.i64 (i20+(1:Int))) fun n30=>
                        again9 (((x10,l11,i12,i13,(i14,i15,i16,PUnit.unit),(i17,i18,i19,PUnit.unit),n30,PUnit.unit),c25,c27,PUnit.unit)))))
                    (brK (decide (i12≥i15))
                      (letN (IntKind.wrap IntKind.i64 (i20+(1:Int))) fun n31=>
                      again9 (((x10,l11,i12,i13,(i14,i15,i16,PUnit.unit),(i17,i18,i19,PUnit.unit),n31,PUnit.unit),U21,U22,PUnit.unit)))
                      (zar (zbc [D.h (3840) x10 (0:Nat),D.sl Tag.lent l11,D.int IntKind.i64 i12,D.agg [D.int IntKind.i64 i14,D.int IntKind.i64 i15,D.int IntKind.i64 i16],D.int IntKind.i64 i20] [U21,U22]) fun r32=>
                      nilK r32.outs <|
                      zbF r32.tbs fun c33 q34=>
                      zbF q34 fun c35 q36=>
                      nilK q36 <|
                      asI IntKind.i64 r32.r fun i37=>
                      brK (i37 != (0:Int))
                        (some (Ans.mk (D.int IntKind.i64 i37) [] [c33,c35]))
                        (letN (IntKind.wrap IntKind.i64 (i20+(1:Int))) fun n38=>
                        again9 (((x10,l11,i12,i13,(i14,i15,i16,PUnit.unit),(i17,i18,i19,PUnit.unit),n38,PUnit.unit),c33,c35,PUnit.unit))))))
                  (zar (zaq [D.h (3840) x10 (0:Nat),D.int IntKind.i64 i12] [U21,U22]) fun r39=>
                  nilK r39.outs <|
                  zbF r39.tbs fun c40 q41=>
                  nilK q41 <|
                  asI IntKind.i64 r39.r fun i42=>
                  some (Ans.mk (D.int IntKind.i64 i42) [] [U21,c40])))
                (((a0,a1,a2,a5,(a3_0,a3_1,a3_2,PUnit.unit),(a4_0,a4_1,a4_2,PUnit.unit),(0:Int),PUnit.unit),T0,T1,PUnit.unit))))))
        (zar (zbx [D.agg [D.int IntKind.i64 a3_0,D.int IntKind.i64 a3_1,D.int IntKind.i64 a3_2],D.agg [D.int IntKind.i64 a4_0,D.int IntKind.i64 a4_1,D.int IntKind.i64 a4_2],D.int IntKind.i64 a5]) fun r43=>
        asB r43 fun b44=>
        brK (!b44)
          (some (Ans.mk (D.int IntKind.i64 (1:Int)) [] [T0,T1]))
          (zar (zao [D.h (3840:Nat) a0 (0:Nat),D.int IntKind.i64 a2] [T0,T1]) fun r45=>
          nilK r45.outs <|
          nilK r45.tbs <|
          asB r45.r fun b46=>
          brK b46
            (some (Ans.mk (D.int IntKind.i64 (5:Int)) [] [T0,T1]))
            (zcR (α:=(Nat×List D×Int×Int×(Int×Int×Int×PUnit)×(Int×Int×Int×PUnit)×Int×PUnit)×List (List D)×List (List D)×PUnit) (fun again47 ((x48,(l49,(i50,(i51,((i52,(i53,(i54,_))),((i55,(i56,(i57,_))),(i58,_))))))),(U59,(U60,_)))=>
              brK (decide (i58 < (16:Int)))
                (brK (decide (i58 < i51))
                  (brK (decide (i50≥i56))
                    (letN (IntKind.wrap IntKind.i64 (i58+(1:Int))) fun n61=>
                    again47 (((x48,l49,i50,i51,(i52,i53,i54,PUnit.unit),(i55,i56,i57,PUnit.unit),n61,PUnit.unit),U59,U60,PUnit.unit)))
                    (zar (zbc [D.h (3840) x48 (0:Nat),D.sl Tag.lent l49,D.int IntKind.i64 i50,D.agg [D.int IntKind.i64 i55,D.int IntKind.i64 i56,D.int IntKind.i64 i57],D.int IntKind.i64 i58] [U59,U60]) fun r62=>
                    nilK r62.outs <|
                    zbF r62.tbs fun c63 q64=>
                    zbF q64 fun c65 q66=>
                    nilK q66 <|
                    asI IntKind.i64 r62.r fun i67=>
                    brK (i67 != (0:Int))
                      (some (Ans.mk (D.int IntKind.i64 i67) [] [c63,c65]))
                      (letN (IntKind.wrap IntKind.i64 (i58+(1:Int))) fun n68=>
                      again47 (((x48,l49,i50,i51,(i52,i53,i54,PUnit.unit),(i55,i56,i57,PUnit.unit),n68,PUnit.unit),c63,c65,PUnit.unit)))))
                  (brK (decide (i50≥i53))
                    (letN (IntKind.wrap IntKind.i64 (i58+(1:Int))) fun n69=>
                    again47 (((x48,l49,i50,i51,(i52,i53,i54,PUnit.unit),(i55,i56,i57,PUnit.unit),n69,PUnit.unit),U59,U60,PUnit.unit)))
                    (zar (zbc [D.h (3840) x48 (0:Nat),D.sl Tag.lent l49,D.int IntKind.i64 i50,D.agg [D.int IntKind.i64 i52,D.int IntKind.i64 i53,D.int IntKind.i64 i54],D.int IntKind.i64 i58] [U59,U60]) fun r70=>
                    nilK r70.outs <|
                    zbF r70.tbs fun c71 q72=>
                    zbF q72 fun c73 q74=>
                    nilK q74 <|
                    asI IntKind.i64 r70.r fun i75=>
                    brK (i75 != (0:Int))
                      (some (Ans.mk (D.int IntKind.i64 i75) [] [c71,c73]))
                      (letN (IntKind.wrap IntKind.i64 (i58+(1:Int))) fun n76=>
                      again47 (((x48,l49,i50,i51,(i52,i53,i54,PUnit.unit),(i55,i56,i57,PUnit.unit),n76,PUnit.unit),c71,c73,PUnit.unit))))))
                (zar (zaq [D.h (3840) x48 (0:Nat),D.int IntKind.i64 i50] [U59,U60]) fun r77=>
                nilK r77.outs <|
                zbF r77.tbs fun c78 q79=>
                nilK q79 <|
                asI IntKind.i64 r77.r fun i80=>
                some (Ans.mk (D.int IntKind.i64 i80) [] [U59,c78])))
              (((a0,a1,a2,a5,(a3_0,a3_1,a3_2,PUnit.unit),(a4_0,a4_1,a4_2,PUnit.unit),(0:Int),PUnit.unit),T0,T1,PUnit.unit)))))))
theorem zoQ (zak:List D→List Tb→Option Ans) (zbx:List D→Option D) (zao:List D→List Tb→Option Ans) (zbc:List D→List Tb→Option Ans) (zaq:List D→List Tb→Option Ans) (tga1:Tag) (a0:Nat) (a1:List D) (a2:Int) (a3_0:Int) (a3_1:Int) (a3_2:Int) (a4_0:Int) (a4_1:Int) (a4_2:Int) (a5:Int) (T0:Tb) (T1:Tb):denS Try.prog (zaB [(ID.bench_Bench_Len,(.st [] [0] [(3840,false)] zak)),(ID.rebuild_may,(.pure [0] zbx)),(ID.bench_Bench_Failed,(.st [] [0] [(3840,false),(7649,false)] zao)),(ID.rebuild_one,(.st [] [0] [(3840,true),(7649,true)] zbc)),(ID.bench_Bench_Flush,(.st [] [0] [(3840,false),(7649,true)] zaq))]) zhr [0] ID.rebuild_Disk [.h 3840 a0 0,.sl tga1 a1,.int .i64 a2,.agg [.int .i64 a3_0,.int .i64 a3_1,.int .i64 a3_2],.agg [.int .i64 a4_0,.int .i64 a4_1,.int .i64 a4_2],.int .i64 a5] [T0,T1]=zga zak zbx zao zbc zaq a0 (D.lentL a1) a2 a3_0 a3_1 a3_2 a4_0 a4_1 a4_2 a5 T0 T1:=by kernel_rfl
theorem zlY (tga1:Tag) (a0:Nat) (a1:List D) (a2:Int) (a3_0:Int) (a3_1:Int) (a3_2:Int) (a4_0:Int) (a4_1:Int) (a4_2:Int) (a5:Int) (T0:Tb) (T1:Tb):zam [.h 3840 a0 0,.sl tga1 a1,.int .i64 a2,.agg [.int .i64 a3_0,.int .i64 a3_1,.int .i64 a3_2],.agg [.int .i64 a4_0,.int .i64 a4_1,.int .i64 a4_2],.int .i64 a5] [T0,T1]=zga zak zbx zao zbc zaq a0 (D.lentL a1) a2 a3_0 a3_1 a3_2 a4_0 a4_1 a4_2 a5 T0 T1:=zoQ zak zbx zao zbc zaq tga1 a0 a1 a2 a3_0 a3_1 a3_2 a4_0 a4_1 a4_2 a5 T0 T1
def zfV:Ann:={ loops:=[],ks:=[(7649,true)] }
noncomputable def zbh:List D→List Tb→Option Ans:=denS Try.prog (zaB []) zfV [] ID.disk_Disk_Fail
theorem zjo:za5 Try.prog ID.disk_Disk_Fail (.st [] [] [(7649,true)] zbh):=zbi (zaE []) zbz ⟨Try.f67,by kernel_rfl,by kernel_rfl,by kernel_rfl⟩
noncomputable def zkd:Fact Try.prog:=⟨ID.disk_Disk_Fail,(.st [] [] [(7649,true)] zbh),zjo⟩
noncomputable def zeF (a0:Nat) (T0:Tb):Option Ans:=
  getK T0 a0 fun d1=>
  sif ((1666:Nat)≤List.length d1) <|
  letT (zaN T0 a0 (0:Nat) (List.map D.own0 (List.set (List.reverse ([D.bool false,D.sl Tag.nil []]++List.replicate 1664 (D.int IntKind.u8 (0:Int)))) (1665:Nat) (D.bool true)))) fun U2=>
  some (Ans.mk (D.tup []) [] [U2])
theorem zmS (a0:Nat) (T0:Tb):denS Try.prog (zaB []) zfV [] ID.disk_Disk_Fail [.h 7649 a0 0] [T0]=zeF a0 T0:=by kernel_rfl
theorem zke (a0:Nat) (T0:Tb):zbh [.h 7649 a0 0] [T0]=zeF a0 T0:=zmS a0 T0
def zeN:Ann:={ loops:=[],ks:=[(3840,false),(7649,true)] }
noncomputable def zaU:List D→List Tb→Option Ans:=denS Try.prog (zaB [(ID.bench_Bench_is,(.st [] [0] [(3840,false)] zan)),(ID.disk_Disk_Fail,(.st [] [] [(7649,true)] zbh))]) zeN [0] ID.bench_Bench_Fail
theorem zhI:za5 Try.prog ID.bench_Bench_Fail (.st [] [0] [(3840,false),(7649,true)] zaU):=zbi (zaE [zdD,zkd]) zbz ⟨Try.f19,by kernel_rfl,by kernel_rfl,by kernel_rfl⟩
noncomputable def ziE:Fact Try.prog:=⟨ID.bench_Bench_Fail,(.st [] [0] [(3840,false),(7649,true)] zaU),zhI⟩
noncomputable def zdZ (zan:List D→List Tb→Option Ans) (zbh:List D→List Tb→Option Ans) (a0:Nat) (a1:Int) (T0:Tb) (T1:Tb):Option Ans:=
  zar (zan [D.h (3840:Nat) a0 (0:Nat),D.int IntKind.i64 a1] [T0]) fun r1=>
  nilK r1.outs <|
  nilK r1.tbs <|
  asB r1.r fun b2=>
  brK (!b2)
    (some (Ans.mk (D.int IntKind.i64 (1:Int)) [] [T1]))
    (getK T0 a0 fun d3=>
    getK d3 ((3:Nat)) fun d4=>
    zbd d4 fun l5=>
    getK T0 a0 fun d6=>
    getK d6 ((3:Nat)) fun d7=>
    zbd d7 fun l8=>
    sif ((0:Int)≤a1) <|
    sif (Int.toNat a1 < List.length l5) <|
    getK T0 a0 fun d9=>
    getK d9 ((3:Nat)) fun d10=>
    zbd d10 fun l11=>
    getK l11 ((0:Nat)+Int.toNat a1) fun d12=>
    sif (D.isAgg d12=false) <|
    sif (D.width d12=(1:Nat)) <|
    sif (D.cell d12=true) <|
    zar (zbh [d12] [T1]) fun r13=>
    nilK r13.outs <|
    zbF r13.tbs fun c14 q15=>
    nilK q15 <|
    zeq r13.r fun ts16=>
    nilK ts16 <|
    some (Ans.mk (D.int IntKind.i64 (0:Int)) [] [c14]))
theorem zla (zan:List D→List Tb→Option Ans) (zbh:List D→List Tb→Option Ans) (a0:Nat) (a1:Int) (T0:Tb) (T1:Tb):denS Try.prog (zaB [(ID.bench_Bench_is,(.st [] [0] [(3840,false)] zan)),(ID.disk_Disk_Fail,(.st [] [] [(7649,true)] zbh))]) zeN [0] ID.bench_Bench_Fail [.h 3840 a0 0,.int .i64 a1] [T0,T1]=zdZ zan zbh a0 a1 T0 T1:=by kernel_rfl
theorem ziF (a0:Nat) (a1:Int) (T0:Tb) (T1:Tb):zaU [.h 3840 a0 0,.int .i64 a1] [T0,T1]=zdZ zan zbh a0 a1 T0 T1:=zla zan zbh a0 a1 T0 T1
def zez:Ann:={ loops:=[],ks:=[(3840,true),(7649,true)] }
noncomputable def zaV:List D→Option D:=denT Try.prog (zaB [(ID.bench_New,(.st [] [0,0] [(3840,true),(7649,true)] za2)),(ID.rebuild_Disk,(.st [] [0] [(3840,true),(7649,true)] zam))]) zez [0] ID.wattlelaw16_wakes
theorem zhh:za5 Try.prog ID.wattlelaw16_wakes (.pure [0] zaV):=zpv (zaE [zjw,zgI]) zbz ⟨Try.f49,by kernel_rfl,by kernel_rfl,by kernel_rfl⟩
noncomputable def zhJ:Fact Try.prog:=⟨ID.wattlelaw16_wakes,(.pure [0] zaV),zhh⟩
noncomputable def zdH (za2:List D→List Tb→Option Ans) (zam:List D→List Tb→Option Ans):Option D:=
  zar (za2 [D.int IntKind.i64 (3:Int)] [[],[]]) fun r1=>
  nilK r1.outs <|
  zbF r1.tbs fun c2 q3=>
  zbF q3 fun c4 q5=>
  nilK q5 <|
  zeq r1.r fun ts6=>
  zau ([Lf.any,Lf.any]) ts6 fun c7=>
  sif (zjs c7.fst=true) <|
  asI IntKind.i64 c7.snd.fst fun i8=>
  brK (i8 != (0:Int))
    (some (D.bool false))
    (zmx c7.fst fun b9=>
    brK b9
      (some (D.bool false))
      (zar (zam [c7.fst,D.sl Tag.full [D.bool true,D.bool true,D.bool true],D.int IntKind.i64 (1:Int),D.agg [D.int IntKind.i64 (5:Int),D.int IntKind.i64 (3:Int),D.int IntKind.i64 (1:Int)],D.agg [D.int IntKind.i64 (0:Int),D.int IntKind.i64 (0:Int),D.int IntKind.i64 (0:Int)],D.int IntKind.i64 (0:Int)] [c2,c4]) fun r10=>
      nilK r10.outs <|
      zbF r10.tbs fun c11 q12=>
      zbF q12 fun c13 q14=>
      nilK q14 <|
      asI IntKind.i64 r10.r fun i15=>
      brK (i15 == (1:Int))
        (zar (zam [c7.fst,D.sl Tag.full [D.bool true,D.bool false,D.bool true],D.int IntKind.i64 (1:Int),D.agg [D.int IntKind.i64 (5:Int),D.int IntKind.i64 (3:Int),D.int IntKind.i64 (1:Int)],D.agg [D.int IntKind.i64 (0:Int),D.int IntKind.i64 (0:Int),D.int IntKind.i64 (0:Int)],D.int IntKind.i64 (0:Int)] [c11,c13]) fun r16=>
        nilK r16.outs <|
        zbF r16.tbs fun c17 q18=>
        zbF q18 fun c19 q20=>
        nilK q20 <|
        asI IntKind.i64 r16.r fun i21=>
        some (D.bool (i21 == (0:Int))))
        (some (D.bool false))))
theorem zkf (za2:List D→List Tb→Option Ans) (zam:List D→List Tb→Option Ans):denT Try.prog (zaB [(ID.bench_New,(.st [] [0,0] [(3840,true),(7649,true)] za2)),(ID.rebuild_Disk,(.st [] [0] [(3840,true),(7649,true)] zam))]) zez [0] ID.wattlelaw16_wakes []=sif (D.nohL []=true) (zdH za2 zam ):=by kernel_rfl
theorem zhK:zaV []=sif (D.nohL []=true) (zdH za2 zam ):=zkf za2 zam
def zhs:Ann:={ loops:=[(1,[.val (.cell (.hnd (3840:Nat))),.val (.cell .lent),.dead,.val (.cell (.int .i64)),.dead,.dead,.dead,.dead,.dead,.dead,.dead,.dead,.dead,.dead,.dead,.dead,.dead,.dead,.dead,.dead,.dead,.dead,.dead,.dead,.dead,.own 1,.val (.cell (.int .i64)),.val (.cell (.int .i64))])],ks:=[(3840,true),(7649,true)] }
noncomputable def zgb:List D→List Tb→Option Ans:=denS Try.prog (zaB [(ID.row_Fill,(.pure [1,0] zbs)),(ID.stripe_up,(.st [] [0] [(3840,false),(7649,false)] zaM)),(ID.bench_Bench_Write,(.st [] [0] [(3840,true),(7649,true)] zav))]) zhs [0] ID.stripe_Write
noncomputable def zgc (zbs:List D→Option D) (zaM:List D→List Tb→Option Ans) (zav:List D→List Tb→Option Ans) (a0:Nat) (a1:List D) (a2_0:Int) (a2_1:Int) (a2_2:Int) (a3:Int) (a4:List D) (T0:Tb) (T1:Tb):Option Ans:=
  zar (zbs [D.agg [D.int IntKind.i64 a2_0,D.int IntKind.i64 a2_1,D.int IntKind.i64 a2_2],D.int IntKind.i64 a3,D.sl Tag.lent a4]) fun r1=>
  zeq r1 fun ts2=>
  zau ([Lf.any,Lf.any]) ts2 fun c3=>
  zbd c3.fst fun l4=>
  asB c3.snd.fst fun b5=>
  brK (!b5)
    (some (Ans.mk (D.int IntKind.i64 (1:Int)) [] [T0,T1]))
    (sif ((0:Nat)+List.length l4≤List.length l4) <|
    sif (List.length l4=List.length l4) <|
    zcR (α:=(Nat×List D×Int×List D×Int×Int×PUnit)×List (List D)×List (List D)×PUnit) (fun again6 ((x7,(l8,(i9,(l10,(i11,(i12,_)))))),(U13,(U14,_)))=>
      brK (decide (i12 < i11))
        (sif ((0:Int)≤i12) <|
        sif (Int.toNat i12 < List.length l10) <|
        getK l10 ((0:Nat)+Int.toNat i12) fun d15=>
        asSl d15 fun t16 l17=>
        zar (zaM [D.h (3840) x7 (0:Nat),D.sl Tag.lent l8,D.int IntKind.i64 i12] [U13,U14]) fun r18=>
        nilK r18.outs <|
        nilK r18.tbs <|
        asB r18.r fun b19=>
        brK (!b19)
          (letN (IntKind.wrap IntKind.i64 (i12+(1:Int))) fun n20=>
          sif (List.length l10=List.length l10) <|
          again6 (((x7,l8,i9,l10,i11,n20,PUnit.unit),U13,U14,PUnit.unit)))
          (letN (IntKind.wrap IntKind.i64 ((36:Int)+i9)) fun n21=>
          zar (zav [D.h (3840) x7 (0:Nat),D.int IntKind.i64 i12,D.int IntKind.i64 n21,D.sl t16 l17] [U13,U14]) fun r22=>
          nilK r22.outs <|
          zbF r22.tbs fun c23 q24=>
          zbF q24 fun c25 q26=>
          nilK q26 <|
          asI IntKind.i64 r22.r fun i27=>
          brK (i27 != (0:Int))
            (some (Ans.mk (D.int IntKind.i64 i27) [] [c23,c25]))
            (letN (IntKind.wrap IntKind.i64 (i12+(1:Int))) fun n28=>
            sif (List.length l10=List.length l10) <|
            again6 (((x7,l8,i9,l10,i11,n28,PUnit.unit),c23,c25,PUnit.unit)))))
        (some (Ans.mk (D.int IntKind.i64 (0:Int)) [] [U13,U14])))
      (((a0,a1,a3,l4,(↑(List.length l4):Int),(0:Int),PUnit.unit),T0,T1,PUnit.unit)))
theorem zoR (zbs:List D→Option D) (zaM:List D→List Tb→Option Ans) (zav:List D→List Tb→Option Ans) (tga1:Tag) (tga4:Tag) (a0:Nat) (a1:List D) (a2_0:Int) (a2_1:Int) (a2_2:Int) (a3:Int) (a4:List D) (T0:Tb) (T1:Tb):denS Try.prog (zaB [(ID.row_Fill,(.pure [1,0] zbs)),(ID.stripe_up,(.st [] [0] [(3840,false),(7649,false)] zaM)),(ID.bench_Bench_Write,(.st [] [0] [(3840,true),(7649,true)] zav))]) zhs [0] ID.stripe_Write [.h 3840 a0 0,.sl tga1 a1,.agg [.int .i64 a2_0,.int .i64 a2_1,.int .i64 a2_2],.int .i64 a3,.sl tga4 a4] [T0,T1]=zgc zbs zaM zav a0 (D.lentL a1) a2_0 a2_1 a2_2 a3 (D.lentL a4) T0 T1:=by kernel_rfl
theorem zlZ (tga1:Tag) (tga4:Tag) (a0:Nat) (a1:List D) (a2_0:Int) (a2_1:Int) (a2_2:Int) (a3:Int) (a4:List D) (T0:Tb) (T1:Tb):zgb [.h 3840 a0 0,.sl tga1 a1,.agg [.int .i64 a2_0,.int .i64 a2_1,.int .i64 a2_2],.int .i64 a3,.sl tga4 a4] [T0,T1]=zgc zbs zaM zav a0 (D.lentL a1) a2_0 a2_1 a2_2 a3 (D.lentL a4) T0 T1:=zoR zbs zaM zav tga1 tga4 a0 a1 a2_0 a2_1 a2_2 a3 a4 T0 T1
def zht:Ann:={ loops:=[(0,[.val (.cell (.hnd (3840:Nat))),.val (.cell .lent),.dead,.dead,.dead,.dead,.dead,.dead,.val (.cell (.int .i64)),.val (.cell (.int .i64))])],ks:=[(3840,false),(7649,true)] }
noncomputable def zgd:List D→List Tb→Option Ans:=denS Try.prog (zaB [(ID.bench_Bench_Len,(.st [] [0] [(3840,false)] zak)),(ID.stripe_up,(.st [] [0] [(3840,false),(7649,false)] zaM)),(ID.bench_Bench_Flush,(.st [] [0] [(3840,false),(7649,true)] zaq))]) zht [0] ID.stripe_Flush
noncomputable def zge (zak:List D→List Tb→Option Ans) (zaM:List D→List Tb→Option Ans) (zaq:List D→List Tb→Option Ans) (a0:Nat) (a1:List D) (T0:Tb) (T1:Tb):Option Ans:=
  zar (zak [D.h (3840:Nat) a0 (0:Nat)] [T0]) fun r1=>
  nilK r1.outs <|
  nilK r1.tbs <|
  asI IntKind.i64 r1.r fun i2=>
  zcR (α:=(Nat×List D×Int×Int×PUnit)×List (List D)×List (List D)×PUnit) (fun again3 ((x4,(l5,(i6,(i7,_)))),(U8,(U9,_)))=>
    brK (decide (i7 < i6))
      (zar (zaM [D.h (3840) x4 (0:Nat),D.sl Tag.lent l5,D.int IntKind.i64 i7] [U8,U9]) fun r10=>
      nilK r10.outs <|
      nilK r10.tbs <|
      asB r10.r fun b11=>
      brK (!b11)
        (letN (IntKind.wrap IntKind.i64 (i7+(1:Int))) fun n12=>
        again3 (((x4,l5,i6,n12,PUnit.unit),U8,U9,PUnit.unit)))
        (zar (zaq [D.h (3840) x4 (0:Nat),D.int IntKind.i64 i7] [U8,U9]) fun r13=>
        nilK r13.outs <|
        zbF r13.tbs fun c14 q15=>
        nilK q15 <|
        asI IntKind.i64 r13.r fun i16=>
        brK (i16 != (0:Int))
          (some (Ans.mk (D.int IntKind.i64 i16) [] [c14]))
          (letN (IntKind.wrap IntKind.i64 (i7+(1:Int))) fun n17=>
          again3 (((x4,l5,i6,n17,PUnit.unit),U8,c14,PUnit.unit)))))
      (some (Ans.mk (D.int IntKind.i64 (0:Int)) [] [U9])))
    (((a0,a1,i2,(0:Int),PUnit.unit),T0,T1,PUnit.unit))
theorem zoS (zak:List D→List Tb→Option Ans) (zaM:List D→List Tb→Option Ans) (zaq:List D→List Tb→Option Ans) (tga1:Tag) (a0:Nat) (a1:List D) (T0:Tb) (T1:Tb):denS Try.prog (zaB [(ID.bench_Bench_Len,(.st [] [0] [(3840,false)] zak)),(ID.stripe_up,(.st [] [0] [(3840,false),(7649,false)] zaM)),(ID.bench_Bench_Flush,(.st [] [0] [(3840,false),(7649,true)] zaq))]) zht [0] ID.stripe_Flush [.h 3840 a0 0,.sl tga1 a1] [T0,T1]=zge zak zaM zaq a0 (D.lentL a1) T0 T1:=by kernel_rfl
theorem zl0 (tga1:Tag) (a0:Nat) (a1:List D) (T0:Tb) (T1:Tb):zgd [.h 3840 a0 0,.sl tga1 a1] [T0,T1]=zge zak zaM zaq a0 (D.lentL a1) T0 T1:=zoS zak zaM zaq tga1 a0 a1 T0 T1
end Wf

namespace Wf
open Go Go.RowKit Go.Proofs
set_option linter.unusedSimpArgs false
set_option linter.unusedVariables false
theorem zst (c:Int):zaC [.sl .full [.int .i64 1,.int .i64 2,.int .i64 4],.int .i64 c]=some (.bool (c == 1 || c == 2 || c == 4)):=by
  rw [zeX]
  unfold zcr
  rw [zf3]
  unfold zcO
  obtain ⟨m,hm⟩:=zw7
  by_cases h1:c=1<;>by_cases h2:c=2<;>by_cases h4:c=4<;>
    simp [zcR,hm,fixN,zcd,h1,h2,h4,zat]<;>omega
theorem zej (l d c:Int):zaf [gD l d c]=some (iD (if zc2 l d c then 0 else 1)):=by
  rw [zn7]
  unfold zih
  have hc:=zst c
  unfold zc2
  obtain ⟨q,hq⟩:∃ q,(c == 1 || c == 2 || c == 4)=q:=⟨_,rfl⟩
  rw [hq] at hc ⊢
  by_cases h5:l=5
  · subst h5
    by_cases h3:d < 3<;>by_cases h8:8 < d<;>cases q<;>simp [zu7,zgk,setD,hc,zcd,h3,h8]<;>omega
  · by_cases h6:l=6
    · subst h6
      by_cases h3:d < 4<;>by_cases h8:8 < d<;>cases q<;>simp [zu7,zgk,setD,hc,zcd,h3,h8]<;>omega
    · simp [zu7,zgk,setD,hc,zcd,h5,h6]
theorem zoo (l d c:Int):zaT [gD l d c]=some (iD (zjT l d c)):=by
  rw [zmD]
  unfold zg8 zjT
  rw [zej]
  cases h:zc2 l d c
  · simp [zcd]
  · have:=zet.1 h
    simp [zcd]
    exact zat (by omega) (by omega)
theorem zvs (l d c:Int):zaD [gD l d c]=some (iD (zia l d c)):=by
  rw [zob]
  unfold ziq zia
  rw [zej,zoo]
  unfold zjT
  cases h:zc2 l d c
  · simp [zcd]
  · have:=zet.1 h
    simp [zcd]
    exact zat (by omega) (by omega)
theorem zlb (l d c:Int):zah [gD l d c]=some (.bool (zc2 l d c)):=by
  rw [zhy]
  unfold zdB zc2
  by_cases h5:l=5
  · subst h5
    by_cases h3:3≤d<;>by_cases h8:d≤8<;>simp [zcd,h3,h8]<;>by_cases h1:c=1<;>by_cases h2:c=2<;>simp [h1,h2]<;>omega
  · by_cases h6:l=6
    · subst h6
      by_cases h3:4≤d<;>by_cases h8:d≤8<;>simp [zcd,h3,h8]<;>by_cases h1:c=1<;>by_cases h2:c=2<;>simp [h1,h2]<;>omega
    · simp [zcd,h5,h6]
theorem zvt (l d c:Int):zaQ [gD l d c]=some (iD (zjT l d c)):=by
  rw [zg4]
  unfold zdk zjT
  rw [zlb]
  cases h:zc2 l d c
  · simp [zcd]
  · have:=zet.1 h
    simp [zcd]
    exact zat (by omega) (by omega)
theorem zsu (l d c:Int):zaP [gD l d c]=some (iD (zia l d c)):=by
  rw [zhA]
  unfold zdC zia
  rw [zlb,zvt]
  unfold zjT
  cases h:zc2 l d c
  · simp [zcd]
  · have:=zet.1 h
    simp [zcd]
    exact zat (by omega) (by omega)
theorem zuC (a n:Int) (h:1≤n) (h9:n < 1000000000):zaa [.int .i64 a,.int .i64 n]=some (iD (a % n)):=by
  rw [zhx]
  unfold zdA
  have hm:=zvl a n h
  have hlt:=Int.lt_tmod_of_pos a (show 0 < n by omega)
  have h1:¬ n < 1:=by omega
  have h0:n≠0:=by omega
  rcases hm with ⟨k1,k2⟩ | ⟨k1,k2⟩
  · simp [zcd,h1,h0,Int.not_lt.2 k1,k2]
  · simp [zcd,h1,h0,k1,k2]
    exact zat (by omega) (by omega)
theorem zsv (g:Geo):zaD [gD g.l g.d g.c]=some (iD g.width):=zvs ..
section
variable (a b c x y z k:Int)
end
section
variable (g:Geo) (a row k:Int)
theorem zuD:zbr [g.D,.int .i64 row]=some (.bool (zcs g row)):=by
  unfold Geo.D
  rw [zqL]
  unfold zlJ
  rw [zej]
  unfold zcs Geo.ok
  cases zc2 g.l g.d g.c<;>simp [zcd]<;>(by_cases h:0≤row<;>simp [h])
theorem zsw:zax [g.D,.int .i64 row]=some (.tup [iD (parP g row).1,iD (parP g row).2]):=by
  have hi:=zuD g row
  unfold Geo.D at*
  rw [zlK]
  unfold zf5
  rw [hi]
  unfold parP
  cases h:zcs g row
  · simp [zcd]
  · obtain ⟨hk,h0,h1⟩:=zbP.1 h
    have hd:=ok_d hk
    have hv:=zCz hk h0
    have hp:=zmn hk row
    have w1:IntKind.i64.wrap (g.d - 1)=g.d - 1:=zat (by omega) (by omega)
    have w2:IntKind.i64.wrap (row.tdiv g.c)=row / g.c:=by rw [zBE hk h0]; exact zat (by omega) (by omega)
    have w3:IntKind.i64.wrap (g.d - 1 - (row / g.c).tmod g.d)=parA g row:=by rw [zuz hv.1]; exact zat (by unfold parA at hp; omega) (by unfold parA at hp; omega)
    have w4:IntKind.i64.wrap (parA g row+1)=parA g row+1:=zat (by omega) (by omega)
    have t4:(parA g row+1).tmod g.d=(parA g row+1) % g.d:=zuz (by omega)
    by_cases h5:g.l=5
    · simp [zcd,show g.c≠0 by omega,show g.d≠0 by omega,w1,w2,w3,h5]
    · simp [zcd,show g.c≠0 by omega,show g.d≠0 by omega,w1,w2,w3,h5,w4,t4]
theorem zvu:zaX [g.D,.int .i64 row,.int .i64 k]=some (iD (zdz g row k)):=by
  have hi:=zuD g row
  have hp:=zsw g row
  unfold Geo.D at*
  rw [zoc]
  unfold zis
  rw [hi,hp,zsv,zoo]
  unfold zdz
  cases h:zcs g row
  · simp [zcd]
  · obtain ⟨hk,h0,h1⟩:=zbP.1 h
    have hd:=ok_d hk
    have hw:=zeV hk
    have hb:=zw9 hk
    have hl:=zhl.1 hk
    have hpa:=zmn hk row
    by_cases k0:k < 0
    · simp [zcd,k0,show ¬ 0≤k by omega]
    · by_cases k1:g.width≤k
      · simp [zcd,k0,k1,show ¬ k < g.width by omega]
      · have w1:IntKind.i64.wrap (parA g row+(g.l - 4))=parA g row+(g.l - 4):=zat (by omega) (by omega)
        have w2:IntKind.i64.wrap (parA g row+(g.l - 4)+k)=parA g row+(g.l - 4)+k:=zat (by omega) (by omega)
        have t2:(parA g row+(g.l - 4)+k).tmod g.d=(parA g row+(g.l - 4)+k) % g.d:=zuz (by omega)
        have hp1:(parP g row).1=parA g row:=by unfold parP; simp [h]
        simp [zcd,k0,k1,show 0≤k by omega,show k < g.width by omega,hb,hp1,w1,w2,t2,show g.d≠0 by omega]
end
section
variable (l d c a row k:Int)
end
section
variable (g:Geo) (row k:Int)
end
section
variable (l d c row k:Int)
end
end Wf

namespace Wf
open Go Go.RowKit Go.Proofs
set_option linter.unusedSimpArgs false
set_option linter.unusedVariables false
theorem zAs (l d c x y z:Int):zaS [gD l d c,gD x y z]=some (.bool (canG l d c x y z)):=by
  rw [zi8]
  unfold zd9 canG
  rw [zlb,zlb,zsu,zsu]
  cases h:zc2 l d c<;>cases k:zc2 x y z<;>simp [zcd]
  by_cases h1:l=x<;>by_cases h2:d=y<;>by_cases h3:c=z<;>by_cases h4:d≤y<;>by_cases h5:l≤x<;>simp [h1,h2,h3,h4,h5]<;>omega
theorem zxe (m n:Int):∃ x y:Geo,za6 [.int .i64 m,.int .i64 n]=some (.tup [x.D,y.D])∧x.can y=true∧x.d≤5∧y.d≤8:=by
  rw [zja]
  unfold zea
  have e2:IntKind.i64.wrap (m.tdiv 2)=qn m 2:=rfl
  have e6:IntKind.i64.wrap (m.tdiv 6)=qn m 6:=rfl
  have e3:IntKind.i64.wrap (n.tdiv 3)=qn n 3:=rfl
  have e9:IntKind.i64.wrap (n.tdiv 9)=qn n 9:=rfl
  have w3:IntKind.i64.wrap (3+m % 2)=3+m % 2:=zat (by omega) (by omega)
  have w4:IntKind.i64.wrap (4+m % 2)=4+m % 2:=zat (by omega) (by omega)
  have w31:IntKind.i64.wrap (3+m % 2+1)=3+m % 2+1:=zat (by omega) (by omega)
  have w3n:IntKind.i64.wrap (3+m % 2+n % 3)=3+m % 2+n % 3:=zat (by omega) (by omega)
  have w4n:IntKind.i64.wrap (4+m % 2+n % 3)=4+m % 2+n % 3:=zat (by omega) (by omega)
  have w3n1:IntKind.i64.wrap (3+m % 2+n % 3+1)=3+m % 2+n % 3+1:=zat (by omega) (by omega)
  have w4n1:IntKind.i64.wrap (4+m % 2+n % 3+1)=4+m % 2+n % 3+1:=zat (by omega) (by omega)
  have wmx:IntKind.i64.wrap (max (3+m % 2+n % 3) (3+m % 2+1)+1)=max (3+m % 2+n % 3) (3+m % 2+1)+1:=zat (by omega) (by omega)
  have h0:0≤qn m 2 % 3:=by omega
  have h3:qn m 2 % 3 < 3:=by omega
  have k0:0≤qn n 3 % 3:=by omega
  have k3:qn n 3 % 3 < 3:=by omega
  simp only [zuC _ _ (show (1:Int)≤2 by decide) (show (2:Int) < 1000000000 by decide),zuC _ _ (show (1:Int)≤3 by decide) (show (3:Int) < 1000000000 by decide),zuC _ _ (show (1:Int)≤4 by decide) (show (4:Int) < 1000000000 by decide),
    zac,iD,zbm,zbk,e2,e6,e3,e9,w3,w4,w31,w3n,w4n,w3n1,w4n1,wmx,zae h0,zae k0,zuy _ h0 h3,zuy _ k0 k3,zAs,zde]
  obtain ⟨a,ha⟩:∃ a,(if qn m 2 % 3=0 then (1:Int) else if qn m 2 % 3=1 then 2 else 4)=a:=⟨_,rfl⟩
  obtain ⟨b,hb⟩:∃ a,(if qn n 3 % 3=0 then (1:Int) else if qn n 3 % 3=1 then 2 else 4)=a:=⟨_,rfl⟩
  have ha':a=1∨a=2∨a=4:=by rw [←ha]; (repeat' split)<;>simp
  have hb':b=1∨b=2∨b=4:=by rw [←hb]; (repeat' split)<;>simp
  rw [ha,hb]
  have hm:m % 2=0∨m % 2=1:=by omega
  have hn:n % 3=0∨n % 3=1∨n % 3=2:=by omega
  clear e2 e6 e3 e9 w3 w4 w31 w3n w4n w3n1 w4n1 wmx h0 h3 k0 k3 ha hb
  generalize m % 2=p at*
  generalize n % 3=q at*
  generalize qn m 6 % 4=s1 at*
  generalize qn n 9 % 2=s2 at*
  have key:∀ (l l' d d':Int),3≤d→d≤5→d≤d'→d'≤7→(l=5∨l=6∧4≤d)→(l'=l∨l=5∧l'=6∧d < d')→
      ∃ x y:Geo,brK (!canG l d a l' d' b) (some (D.tup [gD l d a,gD l' (d'+1) b])) (some (D.tup [gD l d a,gD l' d' b]))=some (.tup [x.D,y.D])∧x.can y=true∧x.d≤5∧y.d≤8:=by
    intro l l' d d' h1 h2 h3 h4 h5 h6
    have v1:zc2 l d a=true:=by rw [zet]; omega
    have v2:zc2 l' d' b=true:=by rw [zet]; omega
    have v3:zc2 l' (d'+1) b=true:=by rw [zet]; omega
    cases hc:canG l d a l' d' b
    · refine ⟨⟨l,d,a⟩,⟨l',d'+1,b⟩,rfl,zw8.2 ⟨v1,v3,?_,?_,?_,?_⟩,h2,by dsimp only; omega⟩
      · simp only [ne_eq,Geo.mk.injEq]; omega
      · dsimp only; omega
      · dsimp only; omega
      · simp only [zia,v1,v3,if_true]; omega
    · exact ⟨⟨l,d,a⟩,⟨l',d',b⟩,rfl,hc,h2,by dsimp only; omega⟩
  by_cases q1:s1=3
  · rw [show (s1 == 3)=true from by simp [q1],zbt]
    have:=key 6 6 (4+p) (4+p+q) (by omega) (by omega) (by omega) (by omega) (by omega) (by omega)
    exact this
  · rw [show (s1 == 3)=false from by simpa using q1,zaG]
    by_cases q2:s2=1
    · rw [show (s2 == 1)=true from by simp [q2],zbt]
      have:=key 5 6 (3+p) (max (3+p+q) (3+p+1)) (by omega) (by omega) (by omega) (by omega) (by omega) (by omega)
      exact this
    · rw [show (s2 == 1)=false from by simpa using q2,zaG]
      have:=key 5 5 (3+p) (3+p+q) (by omega) (by omega) (by omega) (by omega) (by omega) (by omega)
      exact this
end Wf

namespace Wf
open Go Go.RowKit Go.Proofs
set_option linter.unusedSimpArgs false
set_option linter.unusedVariables false
theorem zq3 (a n:Int) (h:1≤n) (h9:n < 1000000000):zaa [.int .i64 a,.int .i64 n]=some (.int .i64 (a % n)):=zuC a n h h9
theorem ze4 {R:Type} (a:Int) {b:List Int} (h:b.length=32) (f:LfT [.int .i64,.arr 32]→Option R):zau [.int .i64,.arr 32] (.int .i64 a::uL b) f=f (a,uL b,()):=by
  have e1:(uL b).take 32=uL b:=List.take_of_length_le (by simp [h])
  have e2:(uL b).drop 32=[]:=List.drop_of_length_le (by simp [h])
  simp [zau,zcE,Lf.get,h,e1,e2]
theorem zl1 {R:Type} {b:List Int} (h:b.length=32) (f:LfT [.arr 32]→Option R):zau [.arr 32] (uL b) f=f (uL b,()):=by
  have e1:(uL b).take 32=uL b:=List.take_of_length_le (by simp [h])
  have e2:(uL b).drop 32=[]:=List.drop_of_length_le (by simp [h])
  simp [zau,zcE,Lf.get,h,e1,e2]
theorem zBF {T:Tb} {i:Nat} {s:DS} (h:T[i]? =some s.cells) (hs:s.Ok) (a:Int):zaH [.h kD i 0,.int .i64 a] [T]=some (Ans.mk (.int .i64 (s.may a)) [] []):=by
  rw [zkT]
  unfold zfo DS.may
  rw [zap h,zap (zkO hs.len),zde]
  cases hf:s.failed
  · by_cases h0:a < 0
    · simp [zcd,h0]
    · by_cases h1:52≤a
      · simp [zcd,h0,h1]
      · simp [zcd,h0,h1]
  · simp [zcd]
theorem zyG {T:Tb} {i:Nat} {s:DS} (h:T[i]? =some s.cells) (hs:s.Ok):za0 [.h kD i 0] [T]=some (Ans.mk (.bool s.failed) [] []):=by
  rw [zik]
  unfold zdU
  rw [zap h,zap (zkO hs.len),zde]
theorem zop {b:List Int} (h:b.length≤4294967296) (tg:Tag):zag [.sl tg (uL b)]=some (.sl .own (uL b)):=by
  cases b with
  | nil=>exact zeZ tg
  | cons n b=>
    show zag [.sl tg (.int .u8 n::uL b)]=some (.sl .own (.int .u8 n::uL b))
    rw [zfp,zc1]
    unfold zcw
    have h1:(D.lent (.int .u8 n)::uL b)=uL (n::b):=by simp [uL]
    rw [h1]
    simp only [zh8,zyl,zgZ,zae,h]
    simp [uL]
theorem zBG (w:Int×List Int):(wD w).free=true:=by
  simp only [wD,D.free,D.freeL,zqA,Bool.and_self]
theorem zzi (w:Int×List Int):(wD w).lent=wD w:=by
  simp only [wD,D.lent,D.lentL,zc1]
theorem zAt (p:List (Int×List Int)):D.lentL (p.map wD)=p.map wD:=by
  induction p with
  | nil=>rfl
  | cons w p ih=>simp [ih,zzi]
theorem zAu {p:List (Int×List Int)} (h:∀ w∈p,Sec w.2):zdq 33 (p.map wD)=true:=by
  simp only [zdq,List.all_map,List.all_eq_true]
  intro w hw
  have:=(h w hw).len
  simp [wD,D.width,D.isAgg,D.cell,this]
theorem zAv {p:List (Int×List Int)} (hp:∀ w∈p,Sec w.2) (h:p.length≤4294967296) (tg:Tag):zaj [.sl tg (p.map wD)]=some (.sl .own (p.map wD)):=by
  cases p with
  | nil=>exact zcW tg
  | cons w p=>
    have hok:=zAu hp
    rw [List.map_cons] at hok ⊢
    rw [zc6,zAt,zzi]
    unfold zbG
    have hf:(wD w::p.map wD).all D.free=true:=by
      rw [←List.map_cons (f:=wD),List.all_map,List.all_eq_true]; intro w _; exact zBG w
    have hl:(wD w::p.map wD).length≤4294967296:=by simpa using h
    simp only [zae,hl,hok,hf]
theorem zzj {p:List (Int×List Int)} {k:Nat} {w:Int×List Int} (h:p[k]? =some w):(p.map wD)[k]? =some (.agg (.int .i64 w.1::uL w.2)):=by simp [h,wD]
theorem zsx (l:List D):D.width (.agg l)=l.length:=rfl
theorem zBH {T:Tb} {i:Nat} {s:DS} (h:T[i]? =some s.cells) (hs:s.Ok) (hn:s.pend.length≤1000000) (a:Int):
    zbg [.h kD i 0,.int .i64 a] [T]=some (Ans.mk (.tup [.sl .own (uL (s.read a).1),.int .i64 (s.read a).2]) [] []):=by
  rw [zj2]
  unfold zeE DS.read
  rw [zBF h hs a,zac,zbl,zbl,zbm]
  by_cases hm:s.may a=0
  · rw [hm]
    have hb:((0:Int) != 0)=false:=rfl
    rw [hb,zaG,if_neg (by simp)]
    have ha:0≤a∧a < 52:=by
      unfold DS.may at hm
      split at hm
      · omega
      · split at hm<;>omega
    have hp:=znY (s:=s) hs.len
    have hbase:=zw0 (s:=s) hs.len (a:=a.toNat) (by omega)
    have hsec:=zur hs (a:=a.toNat) (by omega)
    rw [zae ha.1,zae (by omega),zap h,zae (by rw [zju hs.len]; omega),Nat.zero_add,hbase]
    rw [zae (zyk _),zae (by simp [hsec.len]),zae (by simp [hsec.len]),zap h,zap hp,zb9,zap h,zap hp,zb9,zae (by simp)]
    rw [zl1 hsec.len,List.length_map]
    refine zg0 (R:=Ans) (α:=(Int×(List D×PUnit)×(Nat×Nat×Nat)×Int×Int×PUnit)×List (List D)×PUnit)
      (fun k=>((a,(uL (look (s.pend.take k) a (s.base a.toNat)),PUnit.unit),(i,0,s.pend.length),(s.pend.length:Int),(k:Int),PUnit.unit),T,PUnit.unit)) s.pend.length (by omega) ?_ ?_
    · intro again k hk
      dsimp only
      obtain ⟨w,hw⟩:∃ w,s.pend[k]? =some w:=⟨_,List.getElem?_eq_getElem hk⟩
      have hws:=hs.ps w (List.mem_of_getElem? hw)
      have hd:decide ((k:Int) < (s.pend.length:Int))=true:=by simp; omega
      have hlk:(look (s.pend.take k) a (s.base a.toNat)).length=32:=zut (fun w hw=>(hs.ps w (List.mem_of_mem_take hw)).len) hsec.len
      rw [hd,zbt,zap h,zap hp,zb9,zae (by omega),zae (by simpa using hk),zap h,zap hp,zb9,zap (by simpa using zzj hw),znT,ze4 _ hws.len]
      dsimp only
      simp only [List.append_nil,List.cons_append,List.nil_append,zsx,List.length_cons,zh8,hws.len,hlk,zae]
      by_cases hwa:w.1=a
      · have hb:(w.1 == a)=true:=by simp [hwa]
        rw [hb,zbt,List.drop_succ_cons,List.drop_zero]
        have et:(uL w.2).take 32=uL w.2:=List.take_of_length_le (by simp [hws.len])
        rw [et,zae (by omega),zae (by simp [hws.len]),zae (by simp [hws.len]),zae (by omega),zbk,zat (by omega) (by omega),zy5 (by simp [hws.len])]
        have e3:(uL (look (s.pend.take k) a (s.base a.toNat))).take 0++uL w.2++(uL (look (s.pend.take k) a (s.base a.toNat))).drop (0+32)=uL w.2:=by
          rw [List.drop_of_length_le (by simp [hlk])]; simp
        rw [e3,zl1 hws.len,zsb hw,if_pos hwa]
        rfl
      · have hb:(w.1 == a)=false:=by simp [hwa]
        rw [hb,zaG,zbk,zat (by omega) (by omega),zl1 hlk,zsb hw,if_neg hwa]
        rfl
    · intro again
      have hlk:=zut (p:=s.pend) (a:=a) (fun w hw=>(hs.ps w hw).len) hsec.len
      have hd:decide ((s.pend.length:Int) < (s.pend.length:Int))=false:=by simp
      dsimp only
      rw [hd,zaG,List.take_length]
      simp only [List.append_nil,zh8,hlk,Nat.le_refl,zae]
      have ec:cut 0 32 (uL (look s.pend a (s.base a.toNat)))=uL (look s.pend a (s.base a.toNat)):=by
        have:=zes (uL (look s.pend a (s.base a.toNat)))
        rw [zh8,hlk] at this; exact this
      rw [ec,zop (by rw [hlk]; omega),zac,zb9]
      simp
      rfl
  · have hb:(s.may a != 0)=true:=by simp [hm]
    rw [hb,zbt,if_pos hm]
    rfl
theorem zBI {T:Tb} {i:Nat} {s:DS} (h:T[i]? =some s.cells) (hs:s.Ok) (a:Int) (tg:Tag) (b:List Int):
    zbn [.h kD i 0,.int .i64 a,.sl tg (uL b)] [T]=some (Ans.mk (.tup [wD (putR s a b).1,.int .i64 (putR s a b).2]) [] []):=by
  rw [zk8,zc1]
  unfold zfw putR
  rw [zBF h hs a,zac,zbl,zbl,zbm]
  by_cases hm:s.may a=0
  · rw [hm]
    have hb:((0:Int) != 0)=false:=rfl
    rw [hb,zaG,if_neg (by simp)]
    by_cases hl:b.length=32
    · have hb2:(((uL b).length:Int) != 32)=false:=by simp [hl]
      rw [hb2,zaG,if_neg (by simp [hl]),zae (zuq _),zae (by simp [hl])]
      have et:(D.int .i64 a::uL b).take 33=.int .i64 a::uL b:=List.take_of_length_le (by simp [hl])
      simp only [List.append_nil,List.cons_append,List.nil_append,List.length_cons,zh8,hl,List.drop_zero,et]
      rw [zae (by omega),ze4 _ hl]
      dsimp only
      simp only [zh8,hl,Nat.le_refl,zae,List.take_of_length_le,et]
      rw [ze4 _ hl]
      dsimp only
      rw [zae (by simp only [D.free,D.freeL,zqA,Bool.and_self])]
      rfl
    · have hb2:(((uL b).length:Int) != 32)=true:=by simp; omega
      rw [hb2,zbt,if_pos hl]
      rfl
  · have hb:(s.may a != 0)=true:=by simp [hm]
    rw [hb,zbt,if_pos hm]
    rfl
theorem zsy (p:List (Int×List Int)):zcL (p.map wD)=true:=by
  simp only [zcL,List.all_map,List.all_eq_true]
  intro w _
  simp [wD,D.flatEl,D.flat,uL]
theorem zuE {p:List (Int×List Int)} (h:∀ w∈p,Sec w.2):zeJ 33 (p.map wD)=true:=by
  simp only [zeJ,List.all_map,List.all_eq_true]
  intro w hw
  have:=(h w hw).len
  simp [wD,D.width,this]
theorem zyH (T:Tb):zlD T=some (Ans.mk (.h kD T.length 0) [] [T++[List.replicate 1664 (D.int .u8 0)++[.sl .own [],.bool false]]]):=by kernel_rfl
theorem zCA (T:Tb):zck [] [T]=some (Ans.mk (.h kD T.length 0) [] [T++[DS.new.cells]]):=by
  rw [zqH]
  have e:DS.new.cells=List.replicate 1664 (D.int .u8 0)++[.sl .own [],.bool false]:=by
    show uL (List.replicate 1664 0)++[.sl .own [],.bool false]=_
    rw [←zr9]
  rw [e]
  exact zyH T
theorem ztB {R:Type} {n:Nat} {b:List Int} (h:b.length=n) (f:LfT [.arr n]→Option R):zau [.arr n] (uL b) f=f (uL b,()):=by
  subst h
  have e1:(uL b).take b.length=uL b:=List.take_of_length_le (by simp)
  have e2:(uL b).drop b.length=[]:=List.drop_of_length_le (by simp)
  simp [zau,zcE,Lf.get,e1,e2]
theorem zpK {n:Nat} {b:List Int} (h:b.length=n):(uL b).take n=uL b:=List.take_of_length_le (by simp [h])
theorem zyI {a:Int} {b:List Int} (h:b.length=32):zdq 33 [D.agg (D.int .i64 a::uL b)]=true:=by simp [zdq,D.width,D.isAgg,D.cell,h]
theorem zxf {a:Int} {b:List Int} (h:b.length=32):zeJ 33 [D.agg (D.int .i64 a::uL b)]=true:=by simp [zeJ,D.width,h]
theorem zvv (a:Int) (b:List Int):zcL [D.agg (D.int .i64 a::uL b)]=true:=by
  have h:(uL b).all D.flat=true:=zAj b
  show ((D.agg (D.int .i64 a::uL b)).flatEl && true)=true
  show ((true && (uL b).all D.flat) && true)=true
  rw [h]; rfl
section
variable {T:Tb} {i:Nat} {s:DS}
theorem zyJ (h:T[i]? =some s.cells) (hl:s.l.length=1664) (p:List (Int×List Int)) (l:List D) (e:l=p.map wD):zaN (setT T i 1664 .undef) i 1664 [.sl .own l]=T.set i ({ s with pend:=p }:DS).cells:=by
  subst e
  rw [zqp h (by rw [zju hl]; omega),zpy hl]
theorem zsz (h:T[i]? =some s.cells) (hl:s.l.length=1664) (p:List (Int×List Int)):zaN T i 1664 [.sl .own (p.map wD)]=T.set i ({ s with pend:=p }:DS).cells:=by
  rw [zd7 h]
  exact congrArg _ (zpy hl p)
theorem zq4 (h:T[i]? =some s.cells) (hs:s.Ok) (hn:s.pend.length≤1000000) (a:Int) (tg:Tag) (b:List Int):
    zaZ [.h kD i 0,.int .i64 a,.sl tg (uL b)] [T]=some (Ans.mk (.int .i64 (s.write a b).1) [] [T.set i (s.write a b).2.cells]):=by
  rw [zjl,zc1]
  unfold zeh DS.write
  have hpl:=zyn s a b
  by_cases he:(putR s a b).2=0
  · obtain ⟨h1,h2,h3,h4,h5⟩:=zw2 he
    simp (disch:=first | omega | assumption | (simp; done) | fail) [zBI h hs,wD,ze4 _ hpl,he,h3,zap h,zap (znY hs.len),hpl,h2,ztB h2,zpK h2,zyI h2,zxf h2,zwM h,zju hs.len,zsy,zvv,zuE hs.ps]
    exact zyJ h hs.len (s.pend++[(a,b)]) _ (by simp [wD])
  · simp (disch:=first | omega | assumption | (simp; done) | fail) [zBI h hs,wD,ze4 _ hpl,he,hpl,set_same h]
theorem zl2 {β:Type} {l:List β} {n:Nat} (h:l.length=n):cut 0 n l=l:=by subst h; exact zes l
theorem zBJ (l:List Int):(uL l).map D.hide=uL l:=by
  unfold uL; rw [List.map_map]; apply List.map_congr_left; intro n _; rfl
theorem zzk (l:List Int):(uL l).map D.own0=uL l:=by
  unfold uL; rw [List.map_map]; apply List.map_congr_left; intro n _; rfl
theorem ztC (h:T[i]? =some s.cells) (hs:s.Ok) (hn:s.pend.length≤1000000):za9 [.h kD i 0] [T]=some (Ans.mk (.h kD T.length 0) [] [T++[s.cells]]):=by
  rw [zjj]
  unfold zeg
  have e1:List.map D.hide (List.take 1666 (List.drop 0 s.cells))=uL s.l++[D.undef,D.bool s.failed]:=by
    rw [List.drop_zero,List.take_of_length_le (by rw [zju hs.len]; omega)]
    unfold DS.cells
    rw [List.map_append,zBJ]; rfl
  have e2:∀ (x:List D),x.length=1666→spl 0 1666 x (uL s.l++[D.undef,D.bool s.failed])=uL s.l++[D.undef,D.bool s.failed]:=by
    intro x hx; unfold spl; rw [if_pos ⟨rfl,hx.symm⟩]
  have e3:((uL s.l++[D.undef,D.bool s.failed]).set 1664 .nilp).all D.own0ok=true:=by
    rw [List.set_append_right _ _ (by simp [hs.len]),List.all_append,zmm (fun _=>rfl)]
    simp [hs.len,D.own0ok,D.flat]
  have e4:((uL s.l++[D.undef,D.bool s.failed]).map D.own0).set 1664 (.sl .own (s.pend.map wD))=s.cells:=by
    rw [List.map_append,zzk,List.set_append_right _ _ (by simp [hs.len])]
    simp [hs.len,DS.cells,D.own0]
  have e5:(uL s.l++[D.undef,D.bool s.failed]).length=1666:=by simp [hs.len]
  have e6:(List.reverse ([D.bool false,D.sl Tag.nil []]++List.replicate 1664 (D.int IntKind.u8 (0:Int)))).length=1666:=by rw [List.length_reverse,List.length_append,List.length_replicate]; rfl
  have e7:((true && decide ((1:Nat)=(1:Nat)) && List.all [(1664:Nat)] fun k=>decide (k < 1666))=true):=by decide
  rw [zap h,e1,e2 _ e6]
  generalize (uL s.l++[D.undef,D.bool s.failed])=X at*
  simp (disch:=first | omega | assumption | (simp; done) | fail) [e3,e4,e5,e7,zl2,zap h,zap (znY hs.len),zju hs.len,zAv hs.ps,zsy,zuE hs.ps]
theorem zAw (h:T[i]? =some s.cells) (hs:s.Ok) (hn:s.pend.length≤1000000):zba [.h kD i 0] [T]=some (Ans.mk (.int .i64 s.flush.1) [] [T.set i s.flush.2.cells]):=by
  rw [zjn]
  unfold zei DS.flush
  cases hf:s.failed
  · have hlp:(s.pend.map wD).length=s.pend.length:=by simp
    simp (disch:=first | omega | assumption | (simp; done) | fail) only [zap h,zap (zkO hs.len),zap (znY hs.len),hf,zde,zaG,zb9,zae,Nat.zero_add,Nat.le_refl,hlp]
    let st:Nat→(Nat×(Nat×Nat×Nat)×Int×Int×PUnit)×List (List D)×PUnit:=fun k=>((i,(i,0,s.pend.length),(s.pend.length:Int),(k:Int),PUnit.unit),T.set i (s.puts (s.pend.take k)).cells,PUnit.unit)
    have hst:st 0=((i,(i,0,s.pend.length),(s.pend.length:Int),0,PUnit.unit),T,PUnit.unit):=by
      show ((i,(i,0,s.pend.length),(s.pend.length:Int),0,PUnit.unit),T.set i (s.puts []).cells,PUnit.unit)=_
      rw [show s.puts []=s from rfl,set_same h]
    rw [←hst]
    refine zg0 st s.pend.length (by omega) ?_ ?_
    · intro again k hk
      dsimp only [st]
      obtain ⟨w,hw⟩:∃ w,s.pend[k]? =some w:=⟨_,List.getElem?_eq_getElem hk⟩
      obtain ⟨hws,hw0,hw1⟩:=hs.pend w (List.mem_of_getElem? hw)
      obtain ⟨pk,pf,pp⟩:=znZ hs (s.pend.take k) fun w hw=>hs.pend w (List.mem_of_mem_take hw)
      have hU:=zkG h (s.puts (s.pend.take k)).cells
      have hpd:=znY (s:=s.puts (s.pend.take k)) pk.len
      rw [pp] at hpd
      have hnx:zaN (T.set i (s.puts (s.pend.take k)).cells) i (w.1.toNat*32) (uL w.2)=T.set i (s.puts (s.pend.take (k+1))).cells:=by
        rw [zd7 hU,zh8,hws.len,zBv pk.len (by omega),List.set_set,List.take_add_one,hw]
        show _=T.set i (s.puts (s.pend.take k++[w])).cells
        unfold DS.puts
        rw [List.foldl_append]; rfl
      simp (disch:=first | omega | assumption | (simp; done) | fail) [zap hU,zap hpd,zap (zzj hw),ze4 _ hws.len,hws.len,zpK hws.len,zju pk.len,hk,zsx,zw0 pk.len,hw0,hw1,zat,hnx]
    · intro again
      dsimp only [st]
      rw [List.take_length]
      obtain ⟨pk,pf,pp⟩:=znZ hs s.pend hs.pend
      have hU:=zkG h (s.puts s.pend).cells
      have hz:=zsz hU pk.len []
      have hz':zaN (T.set i (s.puts s.pend).cells) i 1664 [D.sl Tag.own []]=T.set i s.flushed.cells:=by
        have:=zsz hU pk.len []
        rw [List.set_set] at this; exact this
      simp (disch:=first | omega | assumption | (simp; done) | fail) [zap hU,zju pk.len,hz']
  · simp (disch:=first | omega | assumption | (simp; done) | fail) [zap h,zap (zkO hs.len),hf,set_same h]
theorem zBK (h:T[i]? =some s.cells) (hs:s.Ok):zbh [.h kD i 0] [T]=some (Ans.mk (.tup []) [] [T.set i DS.dead.cells]):=by
  rw [zke]
  unfold zeF
  have e:List.map D.own0 (List.set (List.reverse ([D.bool false,D.sl Tag.nil []]++List.replicate 1664 (D.int IntKind.u8 (0:Int)))) 1665 (D.bool true))=DS.dead.cells:=by
    rw [List.reverse_append,List.reverse_replicate]
    show List.map D.own0 (List.set (List.replicate 1664 (D.int IntKind.u8 (0:Int))++[D.sl Tag.nil [],D.bool false]) 1665 (D.bool true))=uL (List.replicate 1664 0)++[.sl .own [],.bool true]
    rw [List.set_append_right _ _ (by rw [List.length_replicate]; omega),List.length_replicate,List.map_append,zr9,zzk]
    rfl
  have hl:DS.dead.cells.length=1666:=zju (s:=DS.dead) (List.length_replicate ..)
  have hset:zaN T i 0 DS.dead.cells=T.set i DS.dead.cells:=by
    rw [zd7 h,hl]
    rw [List.take_zero,List.nil_append,List.drop_of_length_le (by rw [zju hs.len]; omega),List.append_nil]
  rw [e,hset,zap h,zju hs.len]
  simp
end
end Wf

namespace Wf
open Go Go.RowKit Go.Proofs
set_option linter.unusedSimpArgs false
set_option linter.unusedVariables false
section
variable {T0 T1:Tb} {b:Nat} {idx:List Nat} {B:Ben}
theorem At.ds (h:At T0 T1 b idx B) (hw:B.w≤1000000) (d:Int):(B.dk d).Ok∧(B.dk d).pend.length≤1000000:=by
  have:=zn0 h.ok d
  exact ⟨this.1,by have:=this.2; omega⟩
theorem zvw (h:At T0 T1 b idx B):zak [.h kB b 0] [P0 T0 b idx B]=some (Ans.mk (.int .i64 B.n) [] []):=by
  rw [zjd]
  unfold zec
  simp [zap h.get0,bRow,h.len,Ben.n]
theorem b_is (h:At T0 T1 b idx B) (d:Int):zan [.h kB b 0,.int .i64 d] [P0 T0 b idx B]=some (Ans.mk (.bool (B.is d)) [] []):=by
  rw [zjY]
  unfold zeD Ben.is Ben.n
  by_cases h0:0≤d
  · simp [zap h.get0,bRow,h0,h.len]
  · simp [h0]
theorem zuF (h:At T0 T1 b idx B) (d:Int):zao [.h kB b 0,.int .i64 d] [P0 T0 b idx B,P1 T1 idx B]=some (Ans.mk (.bool (B.failed d)) [] []):=by
  rw [zg7]
  unfold zdl Ben.failed
  cases hd:B.is d
  · simp [b_is h d,hd]
  · obtain ⟨h0,h1⟩:=zfi.1 hd
    have h1':d.toNat < idx.length:=by have:=h.len; unfold Ben.n at h1; omega
    simp (disch:=first | omega | assumption | (simp; done) | fail) [b_is h d,hd,zap h.get0,bRow,h0,h1',zap (h.hd hd),D.isAgg,D.width,D.cell,zyG (h.get1 hd) (zn0 h.ok d).1]
theorem zsA (h:At T0 T1 b idx B) (d:Int):zal [.h kB b 0,.int .i64 d] [P0 T0 b idx B]=some (Ans.mk (.int .i64 (B.may d)) [] []):=by
  rw [zjg]
  unfold zed Ben.may
  cases hd:B.is d
  · simp [b_is h d,hd]
  · cases hw:B.down<;>simp [b_is h d,hd,zap h.get0,bRow,hw]
theorem zzl (h:At T0 T1 b idx B) (hw:B.w≤1000000) (d a:Int):za1 [.h kB b 0,.int .i64 d,.int .i64 a] [P0 T0 b idx B,P1 T1 idx B]=some (Ans.mk (.tup [.sl .own (uL (B.read d a).1),.int .i64 (B.read d a).2]) [] []):=by
  rw [zin]
  unfold zdW Ben.read
  by_cases hm:B.may d=0
  · obtain ⟨hd,hdn⟩:=may0.1 hm
    obtain ⟨h0,h1⟩:=zfi.1 hd
    have h1':d.toNat < idx.length:=by have:=h.len; unfold Ben.n at h1; omega
    have hu:=zgZ ((B.dk d).read a).1
    simp only [List.all_eq_true] at hu
    simp (disch:=first | omega | assumption | (simp; done) | fail) [zsA h d,hm,zap h.get0,bRow,h0,h1',zap (h.hd hd),D.isAgg,D.width,D.cell,zBH (h.get1 hd) (h.ds hw d).1 (h.ds hw d).2]
  · simp [zsA h d,hm]; rfl
theorem zAx (h:At T0 T1 b idx B) (tg:Tag) (live:List Bool) {d:Int} (h0:0≤d):zaM [.h kB b 0,.sl tg (live.map D.bool),.int .i64 d] [P0 T0 b idx B,P1 T1 idx B]=some (Ans.mk (.bool (B.up live d)) [] []):=by
  have hl:D.lentL (live.map D.bool)=live.map D.bool:=by
    induction live with
    | nil=>rfl
    | cons x l ih=>simp [ih]
  rw [zoB,hl]
  unfold zjZ Ben.up
  by_cases h1:d < B.n
  · by_cases h2:d < live.length
    · have e:live[d.toNat]? =some (live[d.toNat]'(by omega)):=List.getElem?_eq_getElem (by omega)
      have e':(live.map D.bool)[d.toNat]? =some (.bool (live[d.toNat]'(by omega))):=by simp [e]
      cases hv:live[d.toNat]'(by omega)
      · rw [hv] at e e'
        simp [zvw h,h1,h2,h0,zap e',e,hv]
      · rw [hv] at e e'
        simp [zvw h,h1,h2,h0,zap e',e,zuF h d,hv]
    · have e:live[d.toNat]? =none:=List.getElem?_eq_none (by omega)
      simp [zvw h,h1,h2,e]
  · simp [zvw h,h1]
theorem zxg (h:At T0 T1 b idx B) (hw:B.w≤1000000):zaL [.h kB b 0] [P0 T0 b idx B]=some (Ans.mk (.bool (decide (B.left≠0))) [] [P0 T0 b idx (if B.left=0 then B.off else B.less)]):=by
  rw [zgH]
  unfold zc7
  have hw0:=h.ok.w0
  have hlf:=h.ok.lf
  have hg:=h.get0
  have hset:∀ (B':Ben) (T:Tb) (cs:List D) (o:Nat) (x:D),T=P0 T0 b idx B'→cs=bRow B' idx→∀ B'':Ben,cs.take o++[x]++cs.drop (o+1)=bRow B'' idx→zaN T b o [x]=P0 T0 b idx B'':=by
    rintro B' _ _ o x rfl rfl B'' e
    have hg':(P0 T0 b idx B')[b]? =some (bRow B' idx):=by unfold P0; rw [List.getElem?_set,if_pos rfl,if_pos h.b]
    rw [zd7 hg']
    show (P0 T0 b idx B').set b ((bRow B' idx).take o++[x]++(bRow B' idx).drop (o+1))=_
    rw [e,zBD]
  by_cases hl:B.left=0
  · have e1:=hset B _ _ 2 (.bool true) rfl rfl B.off rfl
    simp (disch:=first | omega | assumption | (simp; done) | fail) [zap hg,bRow,hl,e1,zgV,D.flat]
  · by_cases hp:0 < B.left
    · let B1:Ben:={ B with left:=B.left - 1 }
      have e1:=hset B _ _ 1 (.int .i64 (B.left - 1)) rfl rfl B1 rfl
      have hg1:(P0 T0 b idx B1)[b]? =some (bRow B1 idx):=by unfold P0; rw [List.getElem?_set,if_pos rfl,if_pos h.b]
      have e2:=hset B1 _ _ 0 (.int .i64 (B.w+1)) rfl rfl B.less (by unfold Ben.less; rw [if_pos hp]; rfl)
      have e3:bRow B1 idx=[.int .i64 B.w,.int .i64 (B.left - 1),.bool B.down,.sl .own (idx.map hD)]:=rfl
      rw [e3] at hg1
      simp (disch:=first | omega | assumption | (simp; done) | fail) [zap hg,zap hg1,bRow,hl,hp,e1,e2,zgV,D.flat,zat]
    · have e1:=hset B _ _ 0 (.int .i64 (B.w+1)) rfl rfl B.less (by unfold Ben.less; rw [if_neg hp]; rfl)
      simp (disch:=first | omega | assumption | (simp; done) | fail) [zap hg,bRow,hl,hp,e1,zgV,D.flat,zat]
theorem zxh (h:At T0 T1 b idx B) (hw:B.w≤1000000) (d a:Int) (tg:Tag) (x:List Int):
    zav [.h kB b 0,.int .i64 d,.int .i64 a,.sl tg (uL x)] [P0 T0 b idx B,P1 T1 idx B]=some (Ans.mk (.int .i64 (B.write d a x).1) [] [P0 T0 b idx (B.write d a x).2,P1 T1 idx (B.write d a x).2]):=by
  rw [zhF,zc1]
  unfold zdF Ben.write
  by_cases hm:B.may d=0
  · obtain ⟨hd,hdn⟩:=may0.1 hm
    obtain ⟨h0,h1⟩:=zfi.1 hd
    obtain ⟨ho,hp⟩:=h.ds hw d
    have h1':d.toNat < idx.length:=by have:=h.len; unfold Ben.n at h1; omega
    have hT:(P1 T1 idx B++[(B.dk d).cells])[(P1 T1 idx B).length]? =some (B.dk d).cells:=by simp
    have hj:(P1 T1 idx B++[(B.dk d).cells]).set (P1 T1 idx B).length ((B.dk d).write a x).2.cells=P1 T1 idx (B.junk ((B.dk d).write a x).2):=by
      rw [List.set_append_right _ _ (Nat.le_refl _),Nat.sub_self,←zAn]; rfl
    have hJ:At T0 T1 b idx (B.junk ((B.dk d).write a x).2):=h.nx (K:=0) ⟨zn2 h.ok _,rfl,by simp,by simp⟩
    have hd':(B.junk ((B.dk d).write a x).2).is d=true:=hd
    have hg1:=hJ.get1 hd'
    have hset:=hJ.set1 hd' ((B.dk d).write a x).2
    have hw1:=zq4 (T:=P1 T1 idx (B.junk ((B.dk d).write a x).2)) (i:=ix idx d) (s:=B.dk d) hg1 ho hp a .lent x
    have hgr:∀ B':Ben,(P0 T0 b idx B')[b]? =some [.int .i64 B'.w,.int .i64 B'.left,.bool B'.down,.sl .own (idx.map hD)]:=by
      intro B'; unfold P0; rw [List.getElem?_set,if_pos rfl,if_pos h.b]; rfl
    by_cases he:(B.dk d).mayW a x=0
    · have e1:((B.dk d).write a x).1=0:=he
      have e2:((B.dk d).write a x).2=(B.dk d).add a x:=by unfold DS.write; rw [if_pos he]
      by_cases hl:B.left=0
      · simp (disch:=first | omega | assumption | (simp; done) | fail) [zsA h d,hm,zap (hgr _),h0,h1',zap (h.hd hd),D.isAgg,D.width,D.cell,ztC (h.get1 hd) ho hp,zjs,zq4 hT ho hp,hj,he,e1,zxg h hw,hl]
        exact ⟨rfl,rfl⟩
      · simp (disch:=first | omega | assumption | (simp; done) | fail) [zsA h d,hm,zap (hgr _),h0,h1',zap (h.hd hd),D.isAgg,D.width,D.cell,ztC (h.get1 hd) ho hp,zjs,zq4 hT ho hp,hj,he,e1,zxg h hw,hl,hw1,hset]
        rw [e2]; exact ⟨rfl,rfl⟩
    · have e1:¬ ((B.dk d).write a x).1=0:=he
      simp (disch:=first | omega | assumption | (simp; done) | fail) [zsA h d,hm,zap (hgr _),h0,h1',zap (h.hd hd),D.isAgg,D.width,D.cell,ztC (h.get1 hd) ho hp,zjs,zq4 hT ho hp,hj,he,e1]
      exact ⟨rfl,rfl⟩
  · simp [zsA h d,hm]
theorem zxi (h:At T0 T1 b idx B) (hw:B.w≤1000000) (d:Int):
    zaq [.h kB b 0,.int .i64 d] [P0 T0 b idx B,P1 T1 idx B]=some (Ans.mk (.int .i64 (B.flush d).1) [] [P1 T1 idx (B.flush d).2]):=by
  rw [zhH]
  unfold zdG Ben.flush
  by_cases hm:B.may d=0
  · obtain ⟨hd,hdn⟩:=may0.1 hm
    obtain ⟨h0,h1⟩:=zfi.1 hd
    obtain ⟨ho,hp⟩:=h.ds hw d
    have h1':d.toNat < idx.length:=by have:=h.len; unfold Ben.n at h1; omega
    simp (disch:=first | omega | assumption | (simp; done) | fail) [zsA h d,hm,zap h.get0,bRow,h0,h1',zap (h.hd hd),D.isAgg,D.width,D.cell,zAw (h.get1 hd) ho hp,h.set1 hd]
  · simp [zsA h d,hm]
theorem zBL (h:At T0 T1 b idx B) (d:Int):
    zaU [.h kB b 0,.int .i64 d] [P0 T0 b idx B,P1 T1 idx B]=some (Ans.mk (.int .i64 (B.fail d).1) [] [P1 T1 idx (B.fail d).2]):=by
  rw [ziF]
  unfold zdZ Ben.fail
  cases hd:B.is d
  · simp [b_is h d,hd]
  · obtain ⟨h0,h1⟩:=zfi.1 hd
    have h1':d.toNat < idx.length:=by have:=h.len; unfold Ben.n at h1; omega
    simp (disch:=first | omega | assumption | (simp; done) | fail) [b_is h d,hd,zap h.get0,bRow,h0,h1',zap (h.hd hd),D.isAgg,D.width,D.cell,zBK (h.get1 hd) (zn0 h.ok d).1,h.set1 hd]
end
end Wf

namespace Wf
open Go Go.RowKit Go.Proofs
set_option linter.unusedSimpArgs false
set_option linter.unusedVariables false
theorem gf_double (a:Int):zaK [.int .u8 a]=some (.int .u8 (dbl a)):=by
  rw [zoG]
  unfold zj5 dbl
  by_cases h:128≤a
  · simp [h]
  · simp [h]
theorem zBM (a b:Int) (h0:0≤b) (h1:b < 256):zdv [.int .u8 a,.int .u8 b]=some (.int .u8 (mul8 a b)):=by
  rw [ztt]
  unfold zqM
  refine zlt (fun x=>x.1.2.1.toNat) (fun _=>some (D.int .u8 (mul8 a b)))
    (fun x=>∃ (n:Nat) (a' b' o:Int),0≤b'∧b' < 2 ^ n∧n≤8∧mulA n a' b' o=mul8 a b∧x=((a',b',o,PUnit.unit),PUnit.unit)) ?_ ⟨8,a,b,0,h0,h1,Nat.le_refl _,rfl,rfl⟩ (by simp; omega)
  rintro again _ ⟨n,a',b',o,p0,p1,p2,p3,rfl⟩ hag
  dsimp only
  by_cases hb:b' > 0
  · have hd:decide (b' > 0)=true:=by simp [hb]
    rw [hd,zbt,zbk]
    cases n with
    | zero=>simp at p1; omega
    | succ n=>
      have hdiv:b'.fdiv 2=b' / 2:=Int.fdiv_eq_ediv_of_nonneg _ (by omega)
      have hlt:b' / 2 < 2 ^ n:=by
        have:(2:Int) ^ (n+1)=2 ^ n*2:=Int.pow_succ ..
        omega
      by_cases hone:bits .and .u8 b' 1=1
      · have hbo:(bits .and .u8 b' 1 == 1)=true:=by simp [hone]
        rw [hbo,zbt,zbk,gf_double,zac,zbm,zbk,hdiv]
        refine hag _ ⟨n,_,_,_,by omega,hlt,by omega,?_,rfl⟩ (by simp; omega)
        rw [←p3]
        show _=mulA n (dbl a') (b' / 2) (if bits .and .u8 b' 1=1 then xor8 o a' else o)
        rw [if_pos hone]
      · have hbo:(bits .and .u8 b' 1 == 1)=false:=by simp [hone]
        rw [hbo,zaG,gf_double,zac,zbm,zbk,hdiv]
        refine hag _ ⟨n,_,_,_,by omega,hlt,by omega,?_,rfl⟩ (by simp; omega)
        rw [←p3]
        show _=mulA n (dbl a') (b' / 2) (if bits .and .u8 b' 1=1 then xor8 o a' else o)
        rw [if_neg hone]
  · have hd:decide (b' > 0)=false:=by simp [hb]
    have:b'=0:=by omega
    subst this
    rw [hd,zaG,←p3,zwP]
theorem zyK {a b:List Int} {k:Nat} {x y:Int} (h1:a[k]? =some x) (h2:b[k]? =some y):(List.zipWith xor8 a b).take (k+1)=(List.zipWith xor8 a b).take k++[xor8 x y]:=by
  rw [List.take_add_one]
  congr 1
  simp [List.getElem?_zipWith,h1,h2]
theorem zfW (t t':Tag) (a b:List Int) (ha:a.length < 100000):zay [.sl t (uL a),.sl t' (uL b)]=some (.sl .own (uL (addL a b))):=by
  rw [zqN,zc1,zc1]
  unfold zlO addL
  by_cases hl:a.length=b.length
  · have hb:(((uL a).length:Int) != ((uL b).length:Int))=false:=by simp [hl]
    rw [hb,zaG,if_pos hl]
    let st:Nat→(List D×List D×List D×Int×Int×PUnit)×PUnit:=fun k=>((uL b,uL ((List.zipWith xor8 a b).take k),uL a,(a.length:Int),(k:Int),PUnit.unit),PUnit.unit)
    have hst:st 0=((uL b,[],uL a,((uL a).length:Int),0,PUnit.unit),PUnit.unit):=by simp [st,uL]
    rw [←hst]
    refine zdf st a.length ha ?_ ?_
    · intro again k hk
      dsimp only [st]
      have h1:a[k]? =some a[k]:=List.getElem?_eq_getElem hk
      have h2:b[k]? =some (b[k]'(by omega)):=List.getElem?_eq_getElem (by omega)
      have hd:decide ((k:Int) < (a.length:Int))=true:=by simp; omega
      rw [hd,zbt,zae (by omega),zap (by simpa using zwX h1),zbm,zae (by omega),zap (by simpa using zwX h2),zbm,zbk,zae (by simp; omega),zae (by rfl),zbk,zat (by omega) (by omega),zae (by simp)]
      rw [zyK h1 h2,←zwZ]
      rfl
    · intro again
      dsimp only [st]
      have hd:decide ((a.length:Int) < (a.length:Int))=false:=by simp
      have ht:(List.zipWith xor8 a b).take a.length=List.zipWith xor8 a b:=List.take_of_length_le (by simp; omega)
      rw [hd,zaG,zae (by rfl),zae (zgZ _),ht]
  · have hb:(((uL a).length:Int) != ((uL b).length:Int))=true:=by simp; omega
    rw [hb,zbt,if_neg hl]
    rfl
theorem zgJ (t:Tag) (a:List Int) (ha:a.length < 100000) {f:Int} (h0:0≤f) (h1:f < 256):zaw [.sl t (uL a),.int .u8 f]=some (.sl .own (uL (a.map (mul8 · f)))):=by
  rw [zoi,zc1]
  unfold ziu
  let st:Nat→(Int×List D×List D×Int×Int×PUnit)×PUnit:=fun k=>((f,uL ((a.map (mul8 · f)).take k),uL a,(a.length:Int),(k:Int),PUnit.unit),PUnit.unit)
  have hst:st 0=((f,[],uL a,((uL a).length:Int),0,PUnit.unit),PUnit.unit):=by simp [st,uL]
  rw [←hst]
  refine zdf st a.length ha ?_ ?_
  · intro again k hk
    dsimp only [st]
    have h2:a[k]? =some a[k]:=List.getElem?_eq_getElem hk
    have hd:decide ((k:Int) < (a.length:Int))=true:=by simp; omega
    rw [hd,zbt,zae (by omega),zap (by simpa using zwX h2),zbm,zBM _ _ h0 h1,zac,zbm,zae (by simp; omega),zae (by rfl),zbk,zat (by omega) (by omega),zae (by simp)]
    have:(a.map (mul8 · f)).take (k+1)=(a.map (mul8 · f)).take k++[mul8 a[k] f]:=by rw [List.take_add_one]; simp [h2]
    rw [this,←zwZ]
    rfl
  · intro again
    dsimp only [st]
    have hd:decide ((a.length:Int) < (a.length:Int))=false:=by simp
    have ht:(a.map (mul8 · f)).take a.length=a.map (mul8 · f):=List.take_of_length_le (by simp)
    rw [hd,zaG,zae (by rfl),zae (zgZ _),ht]
abbrev Part:=Tag×List Int
def pL (ps:List Part):List D:=ps.map fun x=>.sl x.1 (uL x.2)
def zbU (t:Tag) (l:List Int):Tag:=match t,l with
  | .nil,_=>.nil
  | .nn,[]=>.nn
  | .nul,[]=>.nul
  | _,_=>.lent
theorem zAy (t:Tag) (l:List Int):D.lent (.sl t (uL l))=.sl (zbU t l) (uL l):=by
  have h:=zc1 l
  cases l with
  | nil=>cases t<;>rfl
  | cons n l=>
    have e:uL (n::l)=.int .u8 n::uL l:=rfl
    rw [e] at h ⊢
    cases t<;>simp only [D.lent,h,zbU]<;>simp [D.lentL,D.lent,zc1]
theorem zcP (ps:List Part):D.lentL (pL ps)=pL (ps.map fun x=>(zbU x.1 x.2,x.2)):=by
  unfold pL
  rw [znx,List.map_map,List.map_map]
  apply List.map_congr_left
  intro x _
  exact zAy x.1 x.2
@[simp] theorem zxj (ps:List Part):(pL ps).length=ps.length:=by simp [pL]
theorem zdt {ps:List Part} {k:Nat} {x:Part} (h:ps[k]? =some x):(pL ps)[k]? =some (.sl x.1 (uL x.2)):=by simp [pL,h]
theorem zxk (ps:List Part) (t:Tag) (l:List Int):pL ps++[.sl t (uL l)]=pL (ps++[(t,l)]):=by simp [pL]
theorem zsB (ps:List Part) (i:Nat) (t:Tag) (l:List Int):(pL ps).set i (.sl t (uL l))=pL (ps.set i (t,l)):=by simp [pL,List.map_set]
def Part.free (x:Part):Bool:=x.1=.fresh || x.1=.full || x.1=.nil
theorem zoq {ps:List Part} (h:∀ x∈ps,x.free=true):(pL ps).all D.free=true:=by
  unfold pL
  rw [List.all_map,List.all_eq_true]
  intro x hx
  have:=h x hx
  obtain ⟨t,l⟩:=x
  cases t<;>first | (exact zqA l) | (exact absurd this (by simp [Part.free]))
theorem zsC (k:Nat) (hk:k < 255):zaF [.int .i64 k]=some (.int .u8 (pow8 k)):=by
  rw [zoj]
  unfold zm2
  have e1:Int.tmod (k:Int) 255=k:=by rw [Int.tmod_eq_emod_of_nonneg (by omega),Int.emod_eq_of_lt (by omega) (by omega)]
  have e2:Int.tmod ((k:Int)+255) 255=k:=by
    rw [Int.tmod_eq_emod_of_nonneg (by omega),Int.add_emod_right,Int.emod_eq_of_lt (by omega) (by omega)]
  rw [zbk,e1,zbk,zat (by omega) (by omega),zbk,e2]
  refine zdf (fun j=>((pow8 j,(k:Int),(j:Int),PUnit.unit),PUnit.unit)) k (by omega) ?_ ?_
  · intro again j hj
    dsimp only
    have hd:decide ((j:Int) < (k:Int))=true:=by simp; omega
    rw [hd,zbt,gf_double,zac,zbm,zbk,zat (by omega) (by omega)]
    rfl
  · intro again
    have hd:decide ((k:Int) < (k:Int))=false:=by simp
    dsimp only
    rw [hd,zaG]
theorem zxl (tg:Tag) {ps:List Part} {n:Nat} (hn:n < 100000) (h0:0 < ps.length) (h1:ps.length < 255) (h:∀ x∈ps,x.2.length=n):
    zbu [.sl tg (pL ps)]=some (.sl .own (uL (sumP n (ps.map (·.2))))):=by
  rw [ztu,zcP]
  unfold zqR
  have hsum:∀ {qs:List Part},0 < qs.length→qs.length < 255→(∀ x∈qs,x.2.length=n)→∀ tg,zbj [.sl tg (pL qs),.fn ID.synd_P_1 [] []]=some (.sl .own (uL (sumP n (qs.map (·.2))))):=by
    intro qs h0 h1 h tg
    rw [zmI,zcP]
    have hl':∀ x∈(qs.map fun x=>(zbU x.1 x.2,x.2)),x.2.length=n:=by
      intro x hx; obtain ⟨y,hy,rfl⟩:=List.mem_map.1 hx; exact h y hy
    have hm:(qs.map fun x=>(zbU x.1 x.2,x.2)).map (·.2)=qs.map (·.2):=by rw [List.map_map]; rfl
    rw [←hm]
    have hlen:(qs.map fun x=>(zbU x.1 x.2,x.2)).length=qs.length:=by simp
    rw [←hlen] at h0 h1
    generalize (qs.map fun x=>(zbU x.1 x.2,x.2))=rs at*
    clear hm hlen h qs
    unfold zg9
    have hb:(((pL rs).length:Int) == 0)=false:=by simp; intro e; rw [e] at h0; simp at h0
    obtain ⟨x0,hx0⟩:∃ x,rs[0]? =some x:=⟨_,List.getElem?_eq_getElem h0⟩
    have hx0l:=hl' x0 (List.mem_of_getElem? hx0)
    rw [hb,zaG,zap (zdt hx0),zh2,zae (by rfl),zh8,hx0l,zae (by omega),zae (by omega),zae (by simp),Int.toNat_natCast,zr9]
    have hls:∀ l∈rs.map (·.2),l.length=n:=by intro l hl; obtain ⟨y,hy,rfl⟩:=List.mem_map.1 hl; exact hl' y hy
    let st:Nat→(List D×List D×Int×Int×PUnit)×PUnit:=fun k=>((uL (sumK (fun _=>1) n (rs.map (·.2)) k),pL rs,((pL rs).length:Int),(k:Int),PUnit.unit),PUnit.unit)
    have hst:st 0=((uL (List.replicate n 0),pL rs,((pL rs).length:Int),0,PUnit.unit),PUnit.unit):=rfl
    rw [←hst]
    refine zdf st rs.length (by omega) ?_ ?_
    · intro again k hk
      dsimp only [st]
      obtain ⟨x,hx⟩:∃ x,rs[k]? =some x:=⟨_,List.getElem?_eq_getElem hk⟩
      have hxl:=hl' x (List.mem_of_getElem? hx)
      have hd:decide ((k:Int) < ((pL rs).length:Int))=true:=by simp; omega
      have hsl:=ziU (f:=fun _=>1) hls (k:=k) (by simp; omega)
      rw [hd,zbt,zae (by omega),zap (by simpa using zdt hx),zh2,zae (by omega)]
      have hb2:(((uL x.2).length:Int) != ((uL (sumK (fun _=>1) n (rs.map (·.2)) k)).length:Int))=false:=by simp [hxl,hsl]
      have hone:za8 [.int .i64 (k:Int)]=some (.int .u8 1):=by rw [zqO]; rfl
      rw [hb2,zaG,hone,zac,zbm,zgJ _ _ (by omega) (by omega) (by omega),zac,zb9,zae (by omega),zae (by omega),zes,zes,zfW _ _ _ _ (by omega),zac,zb9,zbk,
        zat (by omega) (by omega),zae (by rfl)]
      have he:addL (sumK (fun _=>1) n (rs.map (·.2)) k) (x.2.map (mul8 · 1))=sumK (fun _=>1) n (rs.map (·.2)) (k+1):=by
        unfold addL
        rw [if_pos (by simp [hsl,hxl])]
        have:(rs.map (·.2)).getD k []=x.2:=by simp [List.getD_eq_getElem?_getD,hx]
        simp only [sumK,this]
      rw [he]
      rfl
    · intro again
      dsimp only [st]
      have hd:decide ((rs.length:Int) < ((pL rs).length:Int))=false:=by simp
      rw [hd,zaG,zae (by rfl),zae (zgZ _)]
      simp [sumP]
  rw [hsum (by simpa using h0) (by simpa using h1) (by intro x hx; obtain ⟨y,hy,rfl⟩:=List.mem_map.1 hx; exact h y hy),zac,zb9,zae (by rfl),zae (zgZ _),List.map_map]
  rfl
theorem zxm (tg:Tag) {ps:List Part} {n:Nat} (hn:n < 100000) (h0:0 < ps.length) (h1:ps.length < 255) (h:∀ x∈ps,x.2.length=n):
    zbv [.sl tg (pL ps)]=some (.sl .own (uL (sumQ n (ps.map (·.2))))):=by
  rw [ztv,zcP]
  unfold zqS
  have hsum:∀ {qs:List Part},0 < qs.length→qs.length < 255→(∀ x∈qs,x.2.length=n)→∀ tg,zbj [.sl tg (pL qs),.fn ID.gf_Pow [] []]=some (.sl .own (uL (sumQ n (qs.map (·.2))))):=by
    intro qs h0 h1 h tg
    rw [zmJ,zcP]
    have hl':∀ x∈(qs.map fun x=>(zbU x.1 x.2,x.2)),x.2.length=n:=by
      intro x hx; obtain ⟨y,hy,rfl⟩:=List.mem_map.1 hx; exact h y hy
    have hm:(qs.map fun x=>(zbU x.1 x.2,x.2)).map (·.2)=qs.map (·.2):=by rw [List.map_map]; rfl
    rw [←hm]
    have hlen:(qs.map fun x=>(zbU x.1 x.2,x.2)).length=qs.length:=by simp
    rw [←hlen] at h0 h1
    generalize (qs.map fun x=>(zbU x.1 x.2,x.2))=rs at*
    clear hm hlen h qs
    unfold zha
    have hb:(((pL rs).length:Int) == 0)=false:=by simp; intro e; rw [e] at h0; simp at h0
    obtain ⟨x0,hx0⟩:∃ x,rs[0]? =some x:=⟨_,List.getElem?_eq_getElem h0⟩
    have hx0l:=hl' x0 (List.mem_of_getElem? hx0)
    rw [hb,zaG,zap (zdt hx0),zh2,zae (by rfl),zh8,hx0l,zae (by omega),zae (by omega),zae (by simp),Int.toNat_natCast,zr9]
    have hls:∀ l∈rs.map (·.2),l.length=n:=by intro l hl; obtain ⟨y,hy,rfl⟩:=List.mem_map.1 hl; exact hl' y hy
    let st:Nat→(List D×List D×Int×Int×PUnit)×PUnit:=fun k=>((uL (sumK pow8 n (rs.map (·.2)) k),pL rs,((pL rs).length:Int),(k:Int),PUnit.unit),PUnit.unit)
    have hst:st 0=((uL (List.replicate n 0),pL rs,((pL rs).length:Int),0,PUnit.unit),PUnit.unit):=rfl
    rw [←hst]
    refine zdf st rs.length (by omega) ?_ ?_
    · intro again k hk
      dsimp only [st]
      obtain ⟨x,hx⟩:∃ x,rs[k]? =some x:=⟨_,List.getElem?_eq_getElem hk⟩
      have hxl:=hl' x (List.mem_of_getElem? hx)
      have hd:decide ((k:Int) < ((pL rs).length:Int))=true:=by simp; omega
      have hsl:=ziU (f:=pow8) hls (k:=k) (by simp; omega)
      rw [hd,zbt,zae (by omega),zap (by simpa using zdt hx),zh2,zae (by omega)]
      have hb2:(((uL x.2).length:Int) != ((uL (sumK pow8 n (rs.map (·.2)) k)).length:Int))=false:=by simp [hxl,hsl]
      have hone:=zsC k (by omega)
      rw [hb2,zaG,hone,zac,zbm,zgJ _ _ (by omega) (zgw k).1 (zgw k).2,zac,zb9,zae (by omega),zae (by omega),zes,zes,zfW _ _ _ _ (by omega),zac,zb9,zbk,
        zat (by omega) (by omega),zae (by rfl)]
      have he:addL (sumK pow8 n (rs.map (·.2)) k) (x.2.map (mul8 · (pow8 k)))=sumK pow8 n (rs.map (·.2)) (k+1):=by
        unfold addL
        rw [if_pos (by simp [hsl,hxl])]
        have:(rs.map (·.2)).getD k []=x.2:=by simp [List.getD_eq_getElem?_getD,hx]
        simp only [sumK,this]
      rw [he]
      rfl
    · intro again
      dsimp only [st]
      have hd:decide ((rs.length:Int) < ((pL rs).length:Int))=false:=by simp
      rw [hd,zaG,zae (by rfl),zae (zgZ _)]
      simp [sumQ]
  rw [hsum (by simpa using h0) (by simpa using h1) (by intro x hx; obtain ⟨y,hy,rfl⟩:=List.mem_map.1 hx; exact h y hy),zac,zb9,zae (by rfl),zae (zgZ _),List.map_map]
  rfl
end Wf

namespace Wf
open Go Go.RowKit Go.Proofs
set_option linter.unusedSimpArgs false
set_option linter.unusedVariables false
theorem zxn (l:List Int):(intL l).all D.free=true:=by simp [intL,D.free]
theorem zxo (l:List Int) (n:Int):intL l++[.int .i64 n]=intL (l++[n]):=by simp [intL]
def ztD (ls:List (List Int)) (k:Nat):List Int:=((List.range k).filter fun i=>(ls.getD i []).isEmpty).map Int.ofNat
def miss (ls:List (List Int)):List Int:=ztD ls ls.length
theorem zvx (ls:List (List Int)) (k:Nat):ztD ls (k+1)=ztD ls k++if (ls.getD k []).isEmpty then [(k:Int)] else []:=by
  unfold ztD
  rw [List.range_succ,List.filter_append,List.map_append]
  congr 1
  by_cases h:(ls.getD k []).isEmpty=true
  · rw [if_pos h,List.filter_cons_of_pos (p:=fun i=>(ls.getD i []).isEmpty) h]; rfl
  · rw [if_neg h,List.filter_cons_of_neg (p:=fun i=>(ls.getD i []).isEmpty) h]; rfl
theorem zxp (ls:List (List Int)) (k:Nat):(ztD ls k).length≤k:=by
  unfold ztD
  rw [List.length_map]
  exact Nat.le_trans (List.length_filter_le _ _) (by simp)
theorem zlc (tg:Tag) (ps:List Part) (hn:ps.length < 100000):zbb [.sl tg (pL ps)]=some (.sl .own (intL (miss (ps.map (·.2))))):=by
  rw [zkY,zcP]
  have hm:(ps.map fun x=>(zbU x.1 x.2,x.2)).map (·.2)=ps.map (·.2):=by rw [List.map_map]; rfl
  have hlen:(ps.map fun x=>(zbU x.1 x.2,x.2)).length=ps.length:=by simp
  rw [←hm]
  rw [←hlen] at hn
  generalize (ps.map fun x=>(zbU x.1 x.2,x.2))=rs at*
  unfold zfr
  let st:Nat→(List D×List D×Int×Int×PUnit)×PUnit:=fun k=>((intL (ztD (rs.map (·.2)) k),pL rs,((pL rs).length:Int),(k:Int),PUnit.unit),PUnit.unit)
  have hst:st 0=(([],pL rs,((pL rs).length:Int),0,PUnit.unit),PUnit.unit):=rfl
  rw [←hst]
  refine zdf st rs.length (by omega) ?_ ?_
  · intro again k hk
    dsimp only [st]
    obtain ⟨x,hx⟩:∃ x,rs[k]? =some x:=⟨_,List.getElem?_eq_getElem hk⟩
    have hd:decide ((k:Int) < ((pL rs).length:Int))=true:=by simp; omega
    have hk2:=zxp (rs.map (·.2)) k
    have hgd:(rs.map (·.2)).getD k []=x.2:=by simp [List.getD_eq_getElem?_getD,hx]
    rw [hd,zbt,zae (by omega),zap (by simpa using zdt hx),zh2,zvx,hgd]
    by_cases he:x.2=[]
    · have hb:(((uL x.2).length:Int) == 0)=true:=by simp [he]
      rw [hb,zbt,zae (by rw [ziT]; omega),zae (by rfl),zbk,zat (by omega) (by omega),zae (by simp),zxo,he]
      rfl
    · have hb:(((uL x.2).length:Int) == 0)=false:=by simp; omega
      have hb2:x.2.isEmpty=false:=by simp [he]
      rw [hb,zaG,zbk,zat (by omega) (by omega),zae (by rfl),hb2]
      simp
  · intro again
    dsimp only [st]
    have hd:decide ((rs.length:Int) < ((pL rs).length:Int))=false:=by simp
    rw [hd,zaG,zae (by rfl),zae (zxn _)]
    simp [miss]
theorem zCB (t:Tag) (l:List Int) (n:Int):zas [.sl t (uL l),.at_ (.int .i64 n)]=some (.bool (!fitS n l)):=by
  rw [zlL,zc1]
  unfold zf6 fitS
  cases l with
  | nil=>simp
  | cons a l=>
    have hd:decide (((uL (a::l)).length:Int) > 0)=true:=by simp
    rw [hd,zbt]
    simp [bne]
    rfl
theorem zoT (tg:Tag) (ps:List Part) (hn:ps.length < 100000) (n:Int):
    ∃ r,zad [.sl tg (pL ps),.fn ID.erase_fits_1 [] [.at_ (.int .i64 n)]]=some r∧∃ i:Int,r=.int .i64 i∧decide (i≥0)= !(ps.all fun x=>fitS n x.2):=by
  rw [zdn,zcP]
  have hm:(ps.all fun x=>fitS n x.2)=((ps.map fun x=>(zbU x.1 x.2,x.2)).all fun x=>fitS n x.2):=by rw [List.all_map]; rfl
  have hlen:(ps.map fun x=>(zbU x.1 x.2,x.2)).length=ps.length:=by simp
  rw [hm]
  rw [←hlen] at hn
  generalize (ps.map fun x=>(zbU x.1 x.2,x.2))=rs at*
  unfold zbM
  refine zum (fun a=>(rs.length:Nat) - a.1.2.2.2.1.toNat) (fun r=>∃ i:Int,r=D.int .i64 i∧decide (i≥0)= !(rs.all fun x=>fitS n x.2))
    (fun a=>∃ k:Nat,k≤rs.length∧((rs.take k).all fun x=>fitS n x.2)=true∧a=((pL rs,n,(rs.length:Int),(k:Int),PUnit.unit),PUnit.unit)) ?_ ⟨0,by omega,by simp,by rw [zxj]; rfl⟩ (by simp; omega)
  rintro again _ ⟨k,hk,he,rfl⟩ hag
  dsimp only
  by_cases hkm:k < rs.length
  · obtain ⟨x,hx⟩:∃ x,rs[k]? =some x:=⟨_,List.getElem?_eq_getElem hkm⟩
    have hd:decide ((k:Int) < (rs.length:Int))=true:=by simp; omega
    rw [hd,zbt,zae (by omega),zap (by simpa using zdt hx),zh2,zCB,zac,zde]
    cases hf:fitS n x.2
    · refine ⟨_,rfl,_,rfl,?_⟩
      have:(rs.all fun x=>fitS n x.2)=false:=by
        rw [List.all_eq_false]
        exact ⟨x,List.mem_of_getElem? hx,by simp [hf]⟩
      rw [this]
      simp
    · simp only [Bool.not_true,zaG,zbk]
      rw [zat (by omega) (by omega)]
      refine hag _ ⟨k+1,by omega,?_,rfl⟩ (by simp; omega)
      rw [List.take_add_one,hx,List.all_append,he]
      simp [hf]
  · have hd:decide ((k:Int) < (rs.length:Int))=false:=by simp; omega
    rw [hd,zaG]
    refine ⟨_,rfl,_,rfl,?_⟩
    rw [List.take_of_length_le (by omega)] at he
    rw [he]
    rfl
theorem erase_fits (tg:Tag) (ps:List Part) (hn:ps.length < 100000) (n:Int):zbE [.int .i64 n,.sl tg (pL ps)]=some (.bool (ps.all fun x=>fitS n x.2)):=by
  rw [zog,zcP]
  have hm:(ps.all fun x=>fitS n x.2)=((ps.map fun x=>(zbU x.1 x.2,x.2)).all fun x=>fitS n x.2):=by rw [List.all_map]; rfl
  have hlen:(ps.map fun x=>(zbU x.1 x.2,x.2)).length=ps.length:=by simp
  rw [hm]
  rw [←hlen] at hn
  generalize (ps.map fun x=>(zbU x.1 x.2,x.2))=rs at*
  unfold zit
  have:zab [.sl .lent (pL rs),.fn ID.erase_fits_1 [] [.at_ (.int .i64 n)]]=some (.bool (!(rs.all fun x=>fitS n x.2))):=by
    rw [zcT,zcP]
    have hm:(rs.all fun x=>fitS n x.2)=((rs.map fun x=>(zbU x.1 x.2,x.2)).all fun x=>fitS n x.2):=by rw [List.all_map]; rfl
    have hlen:(rs.map fun x=>(zbU x.1 x.2,x.2)).length=rs.length:=by simp
    rw [hm]
    rw [←hlen] at hn
    generalize (rs.map fun x=>(zbU x.1 x.2,x.2))=qs at*
    unfold zbC
    obtain ⟨r,h1,i,rfl,h2⟩:=zoT .lent qs hn n
    rw [h1,zac,zbm,h2]
  rw [this,zac,zde,Bool.not_not]
theorem zAz {l:List D} {n:Nat} (h:l.length=n):cut 0 n l=l:=by subst h; exact zes l
theorem erase_filled (n:Nat) (hn0:n < 100000) (tg:Tag) (ps:List Part) (hn:ps.length < 100000):zbo [.int .i64 n,.sl tg (pL ps)]=some (.sl .own (pL (ps.map fun x=>(Tag.fresh,zhw n x.2)))):=by
  rw [zlN,zcP]
  have hm:(ps.map fun x=>(Tag.fresh,zhw n x.2))=((ps.map fun x=>(zbU x.1 x.2,x.2)).map fun x=>(Tag.fresh,zhw n x.2)):=by rw [List.map_map]; rfl
  have hlen:(ps.map fun x=>(zbU x.1 x.2,x.2)).length=ps.length:=by simp
  rw [hm]
  rw [←hlen] at hn
  generalize (ps.map fun x=>(zbU x.1 x.2,x.2))=rs at*
  unfold zf7
  let st:Nat→(Int×List D×List D×Int×Int×PUnit)×PUnit:=fun k=>(((n:Int),pL ((rs.take k).map fun x=>(Tag.fresh,zhw n x.2)),pL rs,((pL rs).length:Int),(k:Int),PUnit.unit),PUnit.unit)
  have hst:st 0=(((n:Int),[],pL rs,((pL rs).length:Int),0,PUnit.unit),PUnit.unit):=rfl
  rw [←hst]
  refine zdf st rs.length (by omega) ?_ ?_
  · intro again k hk
    dsimp only [st]
    obtain ⟨x,hx⟩:∃ x,rs[k]? =some x:=⟨_,List.getElem?_eq_getElem hk⟩
    have hd:decide ((k:Int) < ((pL rs).length:Int))=true:=by simp; omega
    have hfill:([]++List.take (Int.toNat (n:Int)) (uL x.2)++List.drop ((0:Nat)+List.length (List.take (Int.toNat (n:Int)) (uL x.2))) (List.replicate (Int.toNat (n:Int)) (D.int IntKind.u8 (0:Int))))=uL (zhw n x.2):=by
      rw [Int.toNat_natCast,ztg,zr9,zth,Nat.zero_add,zh8,List.nil_append,←zwY]; rfl
    rw [hd,zbt,zae (by omega),zap (by simpa using zdt hx),zh2,zae (by omega),zae (by rfl),zae (by omega),zae (by omega),zae (by simp),zae (zuq _),hfill,zae (by simp [zgx]),zae (by simp; omega),zae (by rfl),
      zbk,zat (by omega) (by omega),zae (by simp),zAz (by simp [zgx]),zxk]
    have:(rs.take (k+1)).map (fun x=>(Tag.fresh,zhw n x.2))=(rs.take k).map (fun x=>(Tag.fresh,zhw n x.2))++[(Tag.fresh,zhw n x.2)]:=by rw [List.take_add_one,hx]; simp
    rw [this]
    rfl
  · intro again
    dsimp only [st]
    have hd:decide ((rs.length:Int) < ((pL rs).length:Int))=false:=by simp
    rw [hd,zaG,zae (by rfl),List.take_length,zae (zoq (by intro x hx; obtain ⟨y,hy,rfl⟩:=List.mem_map.1 hx; rfl))]
def fP (ls:List (List Int)):List Part:=ls.map fun l=>(Tag.fresh,l)
@[simp] theorem zBN (ls:List (List Int)):(fP ls).length=ls.length:=by simp [fP]
theorem zsD (ls:List (List Int)):(fP ls).map (·.2)=ls:=by
  unfold fP
  rw [List.map_map]
  exact List.map_id ls
theorem zhi (ls:List (List Int)):(pL (fP ls)).all D.free=true:=zoq (by intro x hx; obtain ⟨y,_,rfl⟩:=List.mem_map.1 hx; rfl)
theorem zBO (ls:List (List Int)) (i:Nat) (l:List Int):(fP ls).set i (Tag.fresh,l)=fP (ls.set i l):=by simp [fP,List.map_set]
theorem zuG {ls:List (List Int)} {k:Nat} {l:List Int} (h:ls[k]? =some l):(fP ls)[k]? =some (Tag.fresh,l):=by simp [fP,h]
theorem zyL (ps:List Part):(ps.map fun x=>(Tag.fresh,zhw 32 x.2))=fP (zbV (ps.map (·.2))):=by simp [fP,zbV]
theorem zyM (ls:List (List Int)):miss ls=(zcq ls).map Int.ofNat:=rfl
theorem zvy (k:Nat) (hk:k < 100000):zaF [.int .i64 k]=some (.int .u8 (pow8 (k % 255))):=by
  have h:=zsC (k % 255) (Nat.mod_lt _ (by omega))
  rw [zoj] at h ⊢
  unfold zm2 at h ⊢
  have e1:Int.tmod (k:Int) 255=((k % 255:Nat):Int):=by rw [Int.tmod_eq_emod_of_nonneg (by omega)]; omega
  have e2:Int.tmod ((k % 255:Nat):Int) 255=((k % 255:Nat):Int):=by rw [Int.tmod_eq_emod_of_nonneg (by omega)]; omega
  rw [e1]
  rw [e2] at h
  exact h
theorem zBP {a:Nat} (ha:a < 256):zdw [.int .u8 a]=some (.int .i64 (if logN a=255 then -1 else (logN a:Int))):=by
  rw [ztx]
  unfold zqT
  refine zlt (a:=(((a:Int),(1:Int),(0:Int),PUnit.unit),PUnit.unit)) (fun x=>(255 - x.1.2.2.1).toNat) (fun x=>some (D.int .i64 (if logF a (255 - x.1.2.2.1.toNat) x.1.2.1.toNat x.1.2.2.1.toNat=255 then -1 else (logF a (255 - x.1.2.2.1.toNat) x.1.2.1.toNat x.1.2.2.1.toNat:Int))))
    (fun x=>∃ n y:Nat,n≤255∧y < 256∧x=(((a:Int),(y:Int),(n:Int),PUnit.unit),PUnit.unit)) ?_ ⟨0,1,by omega,by omega,rfl⟩ (by simp)
  rintro again _ ⟨n,y,hn,hy,rfl⟩ hag
  dsimp only
  rw [Int.toNat_natCast,Int.toNat_natCast]
  by_cases h:n < 255
  · have e:255 - n=(255 - (n+1))+1:=by omega
    have hd:decide ((n:Int) < 255)=true:=by simp; omega
    rw [hd,zbt,e]
    by_cases hya:y=a
    · subst hya
      have:logF y (255 - (n+1)+1) y n=n:=by unfold logF; rw [if_pos rfl]
      rw [this,if_neg (by omega)]
      simp
    · have hb:((y:Int) == (a:Int))=false:=by simp; omega
      have:logF a (255 - (n+1)+1) y n=logF a (255 - (n+1)) (dblN y) (n+1):=by rw [logF,if_neg hya]
      have hh:=hag (((a:Int),((dblN y:Nat):Int),((n+1:Nat):Int),PUnit.unit),PUnit.unit) ⟨n+1,dblN y,by omega,zh4 hy,rfl⟩ (by dsimp only; omega)
      dsimp only at hh
      rw [Int.toNat_natCast,Int.toNat_natCast] at hh
      rw [hb,zaG,gf_double,zac,zbm,zbk,zat (by omega) (by omega),zta hy,this]
      exact hh
  · have:n=255:=by omega
    subst this
    simp [logF]
theorem zzm {a:Int} (ha:Byt a):zb4 [.int .u8 a]=some (.int .u8 (inv8 a)):=by
  obtain ⟨m,hm,rfl⟩:=zdT ha
  rw [zty]
  unfold zqU inv8 invN
  rw [Int.toNat_natCast]
  by_cases h0:m=0
  · subst h0; simp
  · obtain ⟨h1,h2⟩:=zAg m hm h0
    have hb:((m:Int) == 0)=false:=by simp; omega
    rw [hb,zaG,zBP hm,zac,zbm,if_neg (by omega),if_neg h0,zbk,zat (by omega) (by omega),show (255:Int) - (logN m:Int)=((255 - logN m:Nat):Int) by omega,zvy _ (by omega),zac,zbm,zkK]
section
variable {ps:List Part} (h1:0 < ps.length) (h8:ps.length≤8) (hs:∀ x∈ps,x.2.length=32)
include h1 h8 hs
theorem by_q (tq tg:Tag) {q:List Int} (hq:q.length=32) {k:Nat} (hk:k < 8):
    zbW [.sl tq (uL q),.sl tg (pL ps),.int .i64 k]=some (.sl .own (uL (byQ q (ps.map (·.2)) k))):=by
  rw [zoN,zc1,zcP]
  have hm:(ps.map fun x=>(zbU x.1 x.2,x.2)).map (·.2)=ps.map (·.2):=by rw [List.map_map]; rfl
  have hlen:(ps.map fun x=>(zbU x.1 x.2,x.2)).length=ps.length:=by simp
  have hs':∀ x∈(ps.map fun x=>(zbU x.1 x.2,x.2)),x.2.length=32:=by intro x hx; obtain ⟨y,hy,rfl⟩:=List.mem_map.1 hx; exact hs y hy
  rw [←hm]
  rw [←hlen] at h1 h8
  generalize (ps.map fun x=>(zbU x.1 x.2,x.2))=rs at*
  unfold zj9
  have hQ:=zxm (n:=32) .lent (ps:=rs) (by omega) h1 (by omega) hs'
  have hr:Byt (inv8 (pow8 k)):=zup _
  have ha:(addL q (sumQ 32 (rs.map (·.2)))).length < 100000:=by unfold addL; split<;>simp<;>omega
  simp (disch:=first | omega | assumption | (simp; done) | fail) [-List.all_eq_true,hQ,zfW _ _ _ _ (show q.length < 100000 by omega),zsC k (by omega),zzm (zun k),zgJ _ _ ha hr.1 hr.2]
  rfl
theorem zBQ (tp tq tg:Tag) {p q:List Int} (hp:p.length=32) (hq:q.length=32) {j k:Nat} (hj:j < 8) (hk:k < 8):
    zb8 [.sl tp (uL p),.sl tq (uL q),.sl tg (pL ps),.int .i64 j,.int .i64 k]=some (.tup [.sl .own (uL (twoX p q (ps.map (·.2)) j k)),.sl .own (uL (twoY p q (ps.map (·.2)) j k))]):=by
  rw [zoL,zc1,zc1,zcP]
  have hm:(ps.map fun x=>(zbU x.1 x.2,x.2)).map (·.2)=ps.map (·.2):=by rw [List.map_map]; rfl
  have hlen:(ps.map fun x=>(zbU x.1 x.2,x.2)).length=ps.length:=by simp
  have hs':∀ x∈(ps.map fun x=>(zbU x.1 x.2,x.2)),x.2.length=32:=by intro x hx; obtain ⟨y,hy,rfl⟩:=List.mem_map.1 hx; exact hs y hy
  rw [←hm]
  rw [←hlen] at h1 h8
  generalize (ps.map fun x=>(zbU x.1 x.2,x.2))=rs at*
  unfold zj8
  have hQ:=zxm (n:=32) .lent (ps:=rs) (by omega) h1 (by omega) hs'
  have hP:=zxl (n:=32) .lent (ps:=rs) (by omega) h1 (by omega) hs'
  have hr:Byt (inv8 (xor8 (pow8 j) (pow8 k))):=zup _
  have addl:∀ {a b:List Int},a.length≤32→(addL a b).length≤32:=by intro a b h; unfold addL; split<;>simp<;>omega
  have h2:(addL p (sumP 32 (rs.map (·.2)))).length≤32:=addl (by omega)
  have h3:(addL q (sumQ 32 (rs.map (·.2)))).length≤32:=addl (by omega)
  have h4:(addL (addL q (sumQ 32 (rs.map (·.2)))) ((addL p (sumP 32 (rs.map (·.2)))).map (mul8 · (pow8 k)))).length≤32:=addl h3
  simp (disch:=first | omega | assumption | (simp; done) | fail) [-List.all_eq_true,hQ,hP,zfW _ _ _ _ (show q.length < 100000 by omega),zfW _ _ _ _ (show p.length < 100000 by omega),zsC j (by omega),zsC k (by omega),zzm (zkI _ _),
    zgJ _ _ (show (addL p (sumP 32 (rs.map (·.2)))).length < 100000 by omega) (zgw k).1 (zgw k).2,zfW _ _ _ _ (show (addL q (sumQ 32 (rs.map (·.2)))).length < 100000 by omega),zfW _ _ _ _ (show (addL p (sumP 32 (rs.map (·.2)))).length < 100000 by omega),
    zgJ _ _ (show (addL (addL q (sumQ 32 (rs.map (·.2)))) ((addL p (sumP 32 (rs.map (·.2)))).map (mul8 · (pow8 k)))).length < 100000 by omega) hr.1 hr.2]
  exact ⟨rfl,rfl⟩
end
end Wf

namespace Wf
open Go Go.RowKit Go.Proofs
set_option linter.unusedSimpArgs false
set_option linter.unusedVariables false
set_option maxHeartbeats 4000000
def solD:Option (List (List Int))→D
  | none=>.tup [.sl .own [],.bool false]
  | some o=>.tup [.sl .own (pL (fP o)),.bool true]
theorem pLs (ls:List (List Int)) (i:Nat) (l:List Int):(pL (fP ls)).set i (.sl .fresh (uL l))=pL (fP (ls.set i l)):=by rw [zsB,zBO]
theorem ztE {ls:List (List Int)} {i:Nat} (h:i < ls.length):(pL (fP ls))[i]? =some (.sl .fresh (uL (ls.getD i []))):=by
  have e:ls[i]? =some (ls.getD i []):=by rw [List.getD_eq_getElem?_getD,List.getElem?_eq_getElem h]; rfl
  exact zdt (zuG e)
theorem zyN (tp tq tg:Tag) (p q:List Int) {ps:List Part} (hn:ps.length < 100000):
    zby [.int .i64 32,.sl tp (uL p),.sl tq (uL q),.sl tg (pL ps)]=some (solD (zh7 p q (ps.map (·.2)))):=by
  rw [zmL,zc1,zc1,zcP]
  have hm:(ps.map fun x=>(zbU x.1 x.2,x.2)).map (·.2)=ps.map (·.2):=by rw [List.map_map]; rfl
  have hlen:(ps.map fun x=>(zbU x.1 x.2,x.2)).length=ps.length:=by simp
  rw [←hm]
  rw [←hlen] at hn
  generalize (ps.map fun x=>(zbU x.1 x.2,x.2))=rs at*
  clear hm hlen ps
  unfold zhb zh7
  have hmi:=zlc .lent rs hn
  rw [zyM] at hmi
  have hpq:zbb [.sl .full [.sl .lent (uL p),.sl .lent (uL q)]]=some (.sl .own (intL ((zcq [p,q]).map Int.ofNat))):=zlc .full [(Tag.lent,p),(Tag.lent,q)] (by simp)
  have hfi:=erase_fits .lent rs hn 32
  have hfa:(rs.all fun x=>fitS 32 x.2)=(rs.map (·.2)).all (fitS 32):=by rw [List.all_map]; rfl
  rw [hfa] at hfi
  have hfpq:zbE [.int .i64 32,.sl .full [.sl .lent (uL p),.sl .lent (uL q)]]=some (.bool ([p,q].all (fitS 32))):=erase_fits .full [(Tag.lent,p),(Tag.lent,q)] (by simp) 32
  have hfl:zbo [.int .i64 32,.sl .lent (pL rs)]=some (.sl .own (pL (fP (zbV (rs.map (·.2)))))):=by
    have:=erase_filled 32 (by omega) .lent rs hn
    rw [zyL] at this
    exact this
  have hl:(rs.map (·.2)).length=rs.length:=by simp
  generalize hls:rs.map (·.2)=ls at*
  have hfill:(zbV ls).length=rs.length:=by rw [zce,hl]
  by_cases c1:rs.length < 1
  · rw [if_pos (.inl (by omega))]
    simp (disch:=first | omega | assumption | (simp; done) | fail) [-List.all_eq_true,hmi,c1,solD]
  by_cases c2:8 < rs.length
  · rw [if_pos (.inr (.inl (by omega)))]
    simp (disch:=first | omega | assumption | (simp; done) | fail) [-List.all_eq_true,hmi,c1,c2,solD]
  cases c3:ls.all (fitS 32)
  · rw [if_pos (.inr (.inr (.inl rfl)))]
    simp (disch:=first | omega | assumption | (simp; done) | fail) [-List.all_eq_true,hmi,c1,c2,hfi,c3,solD]
  cases c4:[p,q].all (fitS 32)
  · rw [if_pos (.inr (.inr (.inr rfl)))]
    simp (disch:=first | omega | assumption | (simp; done) | fail) [-List.all_eq_true,-List.all_cons,hmi,c1,c2,hfi,c3,hfpq,c4,solD]
  rw [if_neg (by rintro (e | e | e | e)<;>first | omega | cases e)]
  have hml:(zcq ls).length≤8:=by
    have:(zcq ls).length≤ls.length:=by unfold zcq; exact Nat.le_trans (List.length_filter_le _ _) (by simp)
    omega
  have hml2:=zqy p q
  have hml3:(zcq [p,q]).length≤2:=by rw [hml2]; split<;>split<;>omega
  by_cases c5:2 < (zcq ls).length+(zcq [p,q]).length
  · rw [if_pos c5]
    simp (disch:=first | omega | assumption | (simp; done) | fail) [-List.all_eq_true,-List.all_cons,hmi,c1,c2,hfi,c3,hfpq,c4,hpq,ziT,zat,solD]
  rw [if_neg c5]
  rcases hmm:zcq ls with _ | ⟨j,_ | ⟨k,_ | ⟨m,t⟩⟩⟩
  · rw [hmm] at c5 hmi
    simp (disch:=first | omega | assumption | (simp; done) | fail) [-List.all_eq_true,-List.all_cons,hmi,c1,c2,hfi,c3,hfpq,c4,hpq,ziT,zat,solD,hfl,zhi]
  · have hj:=zdh.1 (show j∈zcq ls by rw [hmm]; simp)
    rw [hmm] at c5 hmi
    have hi1:intL [(j:Int)]=[.int .i64 j]:=rfl
    have c6:¬ 2 < 1+((zcq [p,q]).length:Int):=by simp at c5; omega
    have hg:=ztE (ls:=zbV ls) (i:=j) (by omega)
    dsimp only
    by_cases hp:0 < p.length
    · rw [if_pos hp]
      have hP:=zxl (n:=32) .lent (ps:=fP (zbV ls)) (by omega) (by simp; omega) (by simp; omega) (by intro x hx; obtain ⟨l,hl,rfl⟩:=List.mem_map.1 hx; unfold zbV at hl; obtain ⟨y,_,rfl⟩:=List.mem_map.1 hl; exact zgx 32 y)
      rw [zsD] at hP
      have hpl:p.length=32:=by
        simp [fitS] at c4
        rcases c4.1 with e | e
        · rw [e] at hp; cases hp
        · omega
      simp (disch:=first | omega | assumption | (simp; done) | fail) [-List.all_eq_true,-List.all_cons,hmi,c1,c2,hfi,c3,hfpq,c4,hpq,ziT,hi1,zat,solD,hfl,hP,hp,zfW,zap hg,pLs,zhi,hfill,c6,D.isAgg]
    · rw [if_neg hp]
      have hq:q.length=32:=by
        have hp0:p=[]:=by cases p; rfl; simp at hp
        have hq0:¬ q=[]:=by intro e; rw [hml2,if_pos hp0,if_pos e] at c5; simp at c5
        simp [fitS] at c4
        rcases c4.2 with e | e
        · exact absurd e hq0
        · omega
      have hQ:=by_q (ps:=fP (zbV ls)) (by simp; omega) (by simp; omega) (by intro x hx; obtain ⟨l,hl,rfl⟩:=List.mem_map.1 hx; unfold zbV at hl; obtain ⟨y,_,rfl⟩:=List.mem_map.1 hl; exact zgx 32 y) .lent .lent hq (k:=j) (by omega)
      rw [zsD] at hQ
      simp (disch:=first | omega | assumption | (simp; done) | fail) [-List.all_eq_true,-List.all_cons,hmi,c1,c2,hfi,c3,hfpq,c4,hpq,ziT,hi1,zat,solD,hfl,hQ,hp,zap hg,pLs,zhi,hfill,c6,D.isAgg]
  · have hj:=zdh.1 (show j∈zcq ls by rw [hmm]; simp)
    have hk:=zdh.1 (show k∈zcq ls by rw [hmm]; simp)
    have hjk:j < k:=by have:=zjQ ls; rw [hmm] at this; simpa using this
    rw [hmm] at c5 hmi
    have hi1:intL [(j:Int),(k:Int)]=[.int .i64 j,.int .i64 k]:=rfl
    have c6:¬ 2 < 2+((zcq [p,q]).length:Int):=by simp at c5; simp [c5]
    have hp0:¬ p=[]:=by intro e; rw [hml2,if_pos e] at c5; simp at c5
    have hq0:¬ q=[]:=by intro e; rw [hml2,if_pos e] at c5; simp at c5
    have hpl:p.length=32∧q.length=32:=by
      simp [fitS] at c4
      exact ⟨by rcases c4.1 with e | e; exact absurd e hp0; omega,by rcases c4.2 with e | e; exact absurd e hq0; omega⟩
    have hT:=zBQ (ps:=fP (zbV ls)) (by simp; omega) (by simp; omega) (by intro x hx; obtain ⟨l,hl,rfl⟩:=List.mem_map.1 hx; unfold zbV at hl; obtain ⟨y,_,rfl⟩:=List.mem_map.1 hl; exact zgx 32 y) .lent .lent .lent hpl.1 hpl.2 (j:=j) (k:=k) (by omega) (by omega)
    rw [zsD] at hT
    have hg:=ztE (ls:=zbV ls) (i:=j) (by omega)
    have hg2:=ztE (ls:=(zbV ls).set j (twoX p q (zbV ls) j k)) (i:=k) (by simp; omega)
    dsimp only
    simp (disch:=first | omega | assumption | (simp; done) | fail) [-List.all_eq_true,-List.all_cons,hmi,c1,c2,hfi,c3,hfpq,c4,hpq,ziT,hi1,zat,solD,hfl,hT,zap hg,zap hg2,pLs,zhi,hfill,c6,D.isAgg]
  · rw [hmm] at c5; simp at c5; omega
end Wf

namespace Wf
open Go Go.RowKit Go.Proofs
set_option linter.unusedSimpArgs false
set_option linter.unusedVariables false
def zBR (n:Int) (i:Nat):Int:=IntKind.u8.wrap (IntKind.i64.wrap (n+IntKind.i64.wrap ((i:Int)*bits .or .i64 (IntKind.i64.wrap (n.tdiv 7)) 1)))
def secN (n:Int):List Int:=if n % 11=10 then List.replicate 32 0 else (List.range 32).map (zBR n)
def secL (l:List Int) (n:Nat):List (List Int):=(List.range n).map fun (i:Nat)=>secN (l.getD i (3*(i:Int)))
@[simp] theorem zCd (l:List Int) (n:Nat):(secL l n).length=n:=by simp [secL]
end Wf

namespace Wf
open Go Go.RowKit Go.Proofs
set_option linter.unusedSimpArgs false
set_option linter.unusedVariables false
set_option maxHeartbeats 4000000
section
variable (g:Geo) (row k n:Int)
theorem zkg:zb3 [.agg [.int .i64 g.l,.int .i64 g.d,.int .i64 g.c],.int .i64 row]=some (.bool (zcs g row)):=by
  rw [ztq]
  unfold zqJ
  rw [show D.agg [.int .i64 g.l,.int .i64 g.d,.int .i64 g.c]=gD g.l g.d g.c from rfl,zej,zac]
  show asI IntKind.i64 (.int .i64 _) _=_
  rw [zbm]
  unfold zcs
  cases h:g.ok
  · have:zc2 g.l g.d g.c=false:=h
    simp [this]
  · have:zc2 g.l g.d g.c=true:=h
    by_cases h0:0≤row
    · simp [this,h0]
    · simp [this,h0]
theorem ziZ:zax [.agg [.int .i64 g.l,.int .i64 g.d,.int .i64 g.c],.int .i64 row]=some (.tup [.int .i64 (parP g row).1,.int .i64 (parP g row).2]):=zsw g row
theorem zor:zaX [.agg [.int .i64 g.l,.int .i64 g.d,.int .i64 g.c],.int .i64 row,.int .i64 k]=some (.int .i64 (zdz g row k)):=zvu g row k
theorem zi0:zaD [.agg [.int .i64 g.l,.int .i64 g.d,.int .i64 g.c]]=some (.int .i64 g.width):=zsv g
end
def ziG (g:Geo) (row:Int) (ls:List (List Int)):Nat→List Part
  | 0=>List.replicate g.d.toNat (Tag.nil,[])
  | k+1=>(ziG g row ls k).set (zdz g row (k:Int)).toNat (Tag.fresh,ls.getD k [])
def zxq (g:Geo) (row:Int) (ls:List (List Int)) (p q:List Int):List Part:=
  if (parP g row).2 < 0 then (ziG g row ls g.width.toNat).set (parP g row).1.toNat (Tag.fresh,p)
  else ((ziG g row ls g.width.toNat).set (parP g row).1.toNat (Tag.fresh,p)).set (parP g row).2.toNat (Tag.fresh,q)
theorem zfz (g:Geo) (row:Int) (ls:List (List Int)) (k:Nat):(ziG g row ls k).length=g.d.toNat:=by
  induction k with
  | zero=>simp [ziG]
  | succ k ih=>simp [ziG,ih]
theorem zvz (g:Geo) (row:Int) (ls:List (List Int)) (k:Nat):∀ x∈ziG g row ls k,Part.free x=true:=by
  induction k with
  | zero=>intro x hx; rw [(List.mem_replicate.1 hx).2]; rfl
  | succ k ih=>
    intro x hx
    rcases List.mem_or_eq_of_mem_set hx with hx | hx
    · exact ih x hx
    · rw [hx]; rfl
theorem zuH {ps:List Part} (h:∀ x∈ps,Part.free x=true) (i:Nat) (l:List Int):∀ x∈ps.set i (Tag.fresh,l),Part.free x=true:=by
  intro x hx
  rcases List.mem_or_eq_of_mem_set hx with hx | hx
  · exact h x hx
  · rw [hx]; rfl
theorem zm3 (t:Tag) (l:List D):D.isAgg (.sl t l)=false:=rfl
theorem zyO (n:Nat):pL (List.replicate n (Tag.nil,[]))=List.replicate n (D.sl .nil []):=by simp [pL,uL]
section
variable {g:Geo} {row:Int} (h:zcs g row=true)
include h
theorem zuI {ls:List (List Int)} {d:Int} (d0:0≤d) (d1:d < g.d) (h1:d≠(parP g row).1) (h2:d≠(parP g row).2):∀ k:Nat,(k:Int)≤g.width→
    (ziG g row ls k)[d.toNat]? =some (if zd8 g d row < k then (Tag.fresh,ls.getD (zd8 g d row).toNat []) else (Tag.nil,[]))
  | 0,_=>by
    obtain ⟨c0,c1,c2⟩:=ziY h d0 d1 h1 h2
    unfold ziG
    rw [List.getElem?_replicate,if_pos (by omega),if_neg (by omega)]
  | k+1,hk=>by
    obtain ⟨c0,c1,c2⟩:=ziY h d0 d1 h1 h2
    have hdi:=zly h (k:=(k:Int)) (by omega) (by omega)
    have ih:=zuI (ls:=ls) d0 d1 h1 h2 k (by omega)
    unfold ziG
    rw [List.getElem?_set]
    by_cases e:zd8 g d row=k
    · have e2:zdz g row k=d:=by rw [←e]; exact c2
      rw [if_pos (by rw [e2]),if_pos (by rw [zfz,e2]; omega),if_pos (by omega)]
      congr 3
      rw [e]; rfl
    · have e2:zdz g row k≠d:=fun e2=>e (zsf h c0 c1 (by omega) (by omega) (by rw [c2,e2]))
      rw [if_neg (by omega),ih]
      by_cases hlt:zd8 g d row < k
      · rw [if_pos hlt,if_pos (by omega)]
      · rw [if_neg hlt,if_neg (by omega)]
theorem zvA (ls:List (List Int)) (p q:List Int) (hp:p=sumP 32 ls) (hq:q=sumQ 32 ls∨g.l=5):zxq g row ls p q=fP (zhm g row ls):=by
  obtain ⟨hk,r0,r1⟩:=zbP.1 h
  have hw:=zeV hk
  obtain ⟨p0,p1,p2⟩:=zqE h
  have hpq:=zzh h
  have hlen:(zxq g row ls p q).length=g.d.toNat:=by unfold zxq; split<;>simp [zfz]
  apply List.ext_getElem?
  intro i
  by_cases hi:i < g.d.toNat
  · have hr:(fP (zhm g row ls))[i]? =some (Tag.fresh,atR g row ls i):=zuG (zlz (by omega))
    rw [hr]
    have hbase:∀ d:Int,0≤d→d < g.d→d≠(parP g row).1→d≠(parP g row).2→(ziG g row ls g.width.toNat)[d.toNat]? =some (Tag.fresh,atR g row ls d):=by
      intro d d0 d1 n1 n2
      obtain ⟨c0,c1,c2⟩:=ziY h d0 d1 n1 n2
      rw [zuI h d0 d1 n1 n2 _ (by omega),if_pos (by omega)]
      unfold atR
      rw [if_neg n1,if_neg n2]
    unfold zxq
    by_cases e1:(i:Int)=(parP g row).1
    · have ha:atR g row ls i=p:=by rw [e1,at_p h,hp]
      rw [ha]
      split
      · rw [List.getElem?_set,if_pos (by omega),if_pos (by rw [zfz]; omega)]
      · rw [List.getElem?_set,if_neg (by omega),List.getElem?_set,if_pos (by omega),if_pos (by rw [zfz]; omega)]
    · by_cases e2:(i:Int)=(parP g row).2
      · have ha:atR g row ls i=sumQ 32 ls:=by rw [e2,at_q h]
        have h6:¬ (parP g row).2 < 0:=by omega
        rw [ha,if_neg h6,List.getElem?_set,if_pos (by omega),if_pos (by rw [List.length_set,zfz]; omega)]
        rcases hq with hq | hq
        · rw [hq]
        · rcases p2 with ⟨e,_⟩ | ⟨_,_,e⟩<;>omega
      · have:=hbase i (by omega) (by omega) e1 e2
        rw [Int.toNat_natCast] at this
        split
        · rw [List.getElem?_set,if_neg (by omega),this]
        · rw [List.getElem?_set,if_neg (by omega),List.getElem?_set,if_neg (by omega),this]
  · rw [List.getElem?_eq_none (by omega),List.getElem?_eq_none (by simp [zlA]; omega)]
end
theorem zyP (t:Tag) (l:List Int):zai [.sl t (uL l)]=some (.bool (!decide (l.length=32))):=by
  rw [zk0,zc1]
  unfold zfs
  simp only [zh8]
  congr 2
  by_cases h:l.length=32
  · simp [h]
  · simp [h]; omega
theorem zl3 (tg:Tag) (ps:List Part) (hn:ps.length < 100000):
    ∃ r,zad [.sl tg (pL ps),.fn ID.row_sectors_1 [] []]=some r∧∃ i:Int,r=.int .i64 i∧decide (i≥0)= !(ps.all fun x=>decide (x.2.length=32)):=by
  rw [zcS,zcP]
  have hm:(ps.all fun x=>decide (x.2.length=32))=((ps.map fun x=>(zbU x.1 x.2,x.2)).all fun x=>decide (x.2.length=32)):=by rw [List.all_map]; rfl
  have hlen:(ps.map fun x=>(zbU x.1 x.2,x.2)).length=ps.length:=by simp
  rw [hm]
  rw [←hlen] at hn
  generalize (ps.map fun x=>(zbU x.1 x.2,x.2))=rs at*
  unfold zbB
  refine zum (fun a=>(rs.length:Nat) - a.1.2.2.1.toNat) (fun r=>∃ i:Int,r=D.int .i64 i∧decide (i≥0)= !(rs.all fun x=>decide (x.2.length=32)))
    (fun a=>∃ k:Nat,k≤rs.length∧((rs.take k).all fun x=>decide (x.2.length=32))=true∧a=((pL rs,(rs.length:Int),(k:Int),PUnit.unit),PUnit.unit)) ?_ ⟨0,by omega,by simp,by rw [zxj]; rfl⟩ (by simp; omega)
  rintro again _ ⟨k,hk,he,rfl⟩ hag
  dsimp only
  by_cases hkm:k < rs.length
  · obtain ⟨x,hx⟩:∃ x,rs[k]? =some x:=⟨_,List.getElem?_eq_getElem hkm⟩
    have hd:decide ((k:Int) < (rs.length:Int))=true:=by simp; omega
    rw [hd,zbt,zae (by omega),zap (by simpa using zdt hx),zh2,zyP,zac,zde]
    by_cases hf:x.2.length=32
    · simp only [hf,decide_true,Bool.not_true,zaG,zbk]
      rw [zat (by omega) (by omega)]
      refine hag _ ⟨k+1,by omega,?_,rfl⟩ (by simp; omega)
      rw [List.take_add_one,hx,List.all_append,he]
      simp [hf]
    · simp only [hf,decide_false,Bool.not_false,zbt]
      refine ⟨_,rfl,_,rfl,?_⟩
      have:(rs.all fun x=>decide (x.2.length=32))=false:=by
        rw [List.all_eq_false]
        exact ⟨x,List.mem_of_getElem? hx,by simp [hf]⟩
      rw [this]
      simp
  · have hd:decide ((k:Int) < (rs.length:Int))=false:=by simp; omega
    rw [hd,zaG]
    refine ⟨_,rfl,_,rfl,?_⟩
    rw [List.take_of_length_le (by omega)] at he
    rw [he]
    rfl
theorem row_sectors (tg:Tag) (ps:List Part) (hn:ps.length < 100000):zbI [.sl tg (pL ps)]=some (.bool (ps.all fun x=>decide (x.2.length=32))):=by
  rw [zmP,zcP]
  have hm:(ps.all fun x=>decide (x.2.length=32))=((ps.map fun x=>(zbU x.1 x.2,x.2)).all fun x=>decide (x.2.length=32)):=by rw [List.all_map]; rfl
  have hlen:(ps.map fun x=>(zbU x.1 x.2,x.2)).length=ps.length:=by simp
  rw [hm]
  rw [←hlen] at hn
  generalize (ps.map fun x=>(zbU x.1 x.2,x.2))=rs at*
  unfold zhd
  have:zab [.sl .lent (pL rs),.fn ID.row_sectors_1 [] []]=some (.bool (!(rs.all fun x=>decide (x.2.length=32)))):=by
    rw [zcB,zcP]
    have hm:(rs.all fun x=>decide (x.2.length=32))=((rs.map fun x=>(zbU x.1 x.2,x.2)).all fun x=>decide (x.2.length=32)):=by rw [List.all_map]; rfl
    have hlen:(rs.map fun x=>(zbU x.1 x.2,x.2)).length=rs.length:=by simp
    rw [hm]
    rw [←hlen] at hn
    generalize (rs.map fun x=>(zbU x.1 x.2,x.2))=qs at*
    unfold zbq
    obtain ⟨r,h1,i,rfl,h2⟩:=zl3 .lent qs hn
    rw [h1,zac,zbm,h2]
  rw [this,zac,zde,Bool.not_not]
theorem zuJ (g:Geo) (row:Int) (tg:Tag) {ps:List Part} (hn:ps.length < 100000):
    zbs [.agg [.int .i64 g.l,.int .i64 g.d,.int .i64 g.c],.int .i64 row,.sl tg (pL ps)]=some (solD (ztm g row (ps.map (·.2)))):=by
  rw [zq1,zcP]
  have hlen:(ps.map fun x=>(zbU x.1 x.2,x.2)).length=ps.length:=by simp
  have hm:(ps.map fun x=>(zbU x.1 x.2,x.2)).map (·.2)=ps.map (·.2):=by rw [List.map_map]; rfl
  rw [←hlen] at hn
  rw [←hm]
  generalize (ps.map fun x=>(zbU x.1 x.2,x.2))=rs at*
  clear hm hlen ps
  unfold zlT ztm
  cases h:zcs g row
  · simp [zkg,h,solD]
  by_cases hl:(rs.length:Int)=g.width
  · have hall:((rs.map (·.2)).all fun x=>decide (x.length=32))=(rs.all fun x=>decide (x.2.length=32)):=by rw [List.all_map]; rfl
    rw [hall]
    cases hs:(rs.all fun x=>decide (x.2.length=32))
    · simp [zkg,h,solD,zi0,hl,row_sectors _ _ hn,hs]
    · have hl':∀ x∈rs,x.2.length=32:=fun x hx=>by rw [List.all_eq_true] at hs; simpa using hs x hx
      rw [if_pos ⟨rfl,by simp [hl],rfl⟩]
      obtain ⟨hk,r0,r1⟩:=zbP.1 h
      have hw:=zeV hk
      have hdd:=ok_d hk
      have hb:((((pL rs).length:Nat):Int) != g.width)=false:=by simp [hl]
      have hrl:rs.length=g.width.toNat:=by omega
      rw [zkg,zac,zde,h,Bool.not_true,zaG,zi0,zac,zbm,hb,zaG,row_sectors _ _ hn,zac,zde,hs,Bool.not_true,zaG,zae (by omega),zae (by rfl),zae (by omega),zae (by omega),zae (by simp)]
      let st:Nat→(Int×List D×(Int×Int×Int×PUnit)×List D×List D×Int×Int×PUnit)×PUnit:=fun k=>((row,pL rs,(g.l,g.d,g.c,PUnit.unit),pL (ziG g row (rs.map (·.2)) k),pL rs,((pL rs).length:Int),(k:Int),PUnit.unit),PUnit.unit)
      have hst:st 0=((row,pL rs,(g.l,g.d,g.c,PUnit.unit),List.replicate g.d.toNat (D.sl .nil []),pL rs,((pL rs).length:Int),0,PUnit.unit),PUnit.unit):=by
        simp only [st,ziG,zyO]; rfl
      rw [←hst]
      refine zg0 st rs.length (by omega) ?_ ?_
      · intro again k hk'
        dsimp only [st]
        obtain ⟨x,hx⟩:∃ x,rs[k]? =some x:=⟨_,List.getElem?_eq_getElem hk'⟩
        have hxs:=hl' x (List.mem_of_getElem? hx)
        have hxe:rs[k]=x:=by rw [List.getElem?_eq_getElem hk'] at hx; exact Option.some.inj hx
        have hdi:=zly h (k:=(k:Int)) (by omega) (by omega)
        have hfl:=zfz g row (rs.map (·.2)) k
        obtain ⟨y,hy⟩:∃ y,(ziG g row (rs.map (·.2)) k)[(zdz g row (k:Int)).toNat]? =some y:=⟨_,List.getElem?_eq_getElem (by omega)⟩
        have hgd:(rs.map (·.2)).getD k []=x.2:=by simp [List.getD_eq_getElem?_getD,hx]
        have hgx:(pL rs)[k]? =some (.sl x.1 (uL x.2)):=zdt hx
        have hlt:(zdz g row (k:Int)).toNat < g.d.toNat:=by omega
        simp (disch:=first | omega | assumption | (simp; done) | fail) [-List.all_eq_true,hk',zap hgx,zor,zop (show x.2.length≤4294967296 by omega),hdi.1,hfl,hlt,zap (zdt hy),zm3,zat,zsB,ziG]
        rw [hxe]
      · intro again
        dsimp only [st]
        obtain ⟨p0,p1,p2⟩:=zqE h
        have hfl:=zfz g row (rs.map (·.2)) rs.length
        obtain ⟨y,hy⟩:∃ y,(ziG g row (rs.map (·.2)) rs.length)[(parP g row).1.toNat]? =some y:=⟨_,List.getElem?_eq_getElem (by omega)⟩
        have hrp:=zxl (n:=32) .lent (ps:=rs) (by omega) (by omega) (by omega) hl'
        have hrq:=zxm (n:=32) .lent (ps:=rs) (by omega) (by omega) (by omega) hl'
        have hff:=zvA h (rs.map (·.2)) (sumP 32 (rs.map (·.2))) (sumQ 32 (rs.map (·.2))) rfl (.inl rfl)
        have hfree:=zuH (zvz g row (rs.map (·.2)) rs.length) (parP g row).1.toNat (sumP 32 (rs.map (·.2)))
        have hfree2:=zuH hfree (parP g row).2.toNat (sumQ 32 (rs.map (·.2)))
        have hlt:(parP g row).1.toNat < g.d.toNat:=by omega
        unfold zxq at hff
        rw [←hrl] at hff
        rcases p2 with ⟨p2,_⟩ | ⟨q0,q1,_⟩
        · rw [if_pos (by omega)] at hff
          have hq:¬ (0≤(parP g row).2):=by omega
          simp (disch:=first | omega | assumption | (simp; done) | fail) [-List.all_eq_true,ziZ,hrp,p0,hfl,hlt,zap (zdt hy),zm3,hq,zsB,zoq hfree,solD,hff,zhi]
        · rw [if_neg (by omega)] at hff
          have hlt2:(parP g row).2.toNat < g.d.toNat:=by omega
          obtain ⟨z,hz⟩:∃ z,((ziG g row (rs.map (·.2)) rs.length).set (parP g row).1.toNat (Tag.fresh,sumP 32 (rs.map (·.2))))[(parP g row).2.toNat]? =some z:=⟨_,List.getElem?_eq_getElem (by simp [hfl]; omega)⟩
          simp (disch:=first | omega | assumption | (simp; done) | fail) [-List.all_eq_true,ziZ,hrp,hrq,p0,q0,hfl,hlt,hlt2,zap (zdt hy),zap (zdt hz),zm3,zsB,zoq hfree,zoq hfree2,solD,hff,zhi]
  · have h2:¬ (true=true∧(((rs.map (·.2)).length:Nat):Int)=g.width∧((rs.map (·.2)).all fun x=>decide (x.length=32))=true):=by rintro ⟨_,e,_⟩; simp at e; exact hl e
    rw [if_neg h2]
    simp [zkg,h,solD,zi0,hl]
end Wf

namespace Wf
open Go Go.RowKit Go.Proofs
set_option linter.unusedSimpArgs false
set_option linter.unusedVariables false
set_option maxHeartbeats 4000000
def zem (g:Geo) (row:Int) (rs:List Part) (k:Nat):List Part:=(List.range k).map fun (j:Nat)=>rs.getD (zdz g row (j:Int)).toNat (.nil,[])
theorem zsE (g:Geo) (row:Int) (rs:List Part):(zem g row rs g.width.toNat).map (·.2)=zeB g row (rs.map (·.2)):=by
  unfold zem zeB
  rw [List.map_map]
  apply List.map_congr_left
  intro j _
  simp [List.getD_eq_getElem?_getD]
  cases rs[(zdz g row (j:Int)).toNat]? <;>rfl
theorem zq5 (g:Geo) (row:Int) (rs:List Part) {k:Nat} {x:Part} (h:rs[(zdz g row (k:Int)).toNat]? =some x):zem g row rs (k+1)=zem g row rs k++[x]:=by
  unfold zem
  rw [List.range_succ,List.map_append]
  simp [List.getD_eq_getElem?_getD,h]
theorem zxr {R:Type} (a b:D) (f:LfT [.any,.any]→Option R):zau [.any,.any] [a,b] f=f (a,b,()):=by rw [zfQ,zfQ,zfP]
theorem zyQ (g:Geo) (row:Int) (tg:Tag) {ps:List Part} (hn:ps.length < 100000):
    zcl [.agg [.int .i64 g.l,.int .i64 g.d,.int .i64 g.c],.int .i64 row,.sl tg (pL ps)]=some (solD (zox g row (ps.map (·.2)))):=by
  rw [zqX,zcP]
  have hm:(ps.map fun x=>(zbU x.1 x.2,x.2)).map (·.2)=ps.map (·.2):=by rw [List.map_map]; rfl
  have hlen:(ps.map fun x=>(zbU x.1 x.2,x.2)).length=ps.length:=by simp
  rw [←hm]
  rw [←hlen] at hn
  generalize (ps.map fun x=>(zbU x.1 x.2,x.2))=rs at*
  clear hm hlen ps
  unfold zlQ zox
  cases h:zcs g row
  · simp [zkg,h,solD]
  by_cases hl:(rs.length:Int)=g.d
  · rw [if_pos ⟨rfl,by simp [hl]⟩]
    have hk:=(zbP.1 h).1
    have hw:=zeV hk
    have hdd:=ok_d hk
    have hb:((((pL rs).length:Nat):Int) != g.d)=false:=by simp [hl]
    rw [zkg,zac,zde,h,Bool.not_true,zaG,hb,zaG,zi0,zac,zbm]
    let st:Nat→(Int×List D×(Int×Int×Int×PUnit)×List D×Int×Int×PUnit)×PUnit:=fun k=>((row,pL rs,(g.l,g.d,g.c,PUnit.unit),pL (zem g row rs k),g.width,(k:Int),PUnit.unit),PUnit.unit)
    have hst:st 0=((row,pL rs,(g.l,g.d,g.c,PUnit.unit),[],g.width,0,PUnit.unit),PUnit.unit):=rfl
    rw [←hst]
    refine zg0 st g.width.toNat (by omega) ?_ ?_
    · intro again k hk'
      dsimp only [st]
      have hd:(k:Int) < g.width:=by omega
      have hdi:=zly h (k:=(k:Int)) (by omega) (by omega)
      obtain ⟨x,hx⟩:∃ x,rs[(zdz g row (k:Int)).toNat]? =some x:=⟨_,List.getElem?_eq_getElem (by omega)⟩
      have hpl:(zem g row rs k).length=k:=by simp [zem]
      simp (disch:=first | omega | assumption | (simp; done) | fail) [-List.all_eq_true,hd,zor,hdi.1,zap (zdt hx),hpl,zat,zxk,zq5 g row rs hx]
    · intro again
      dsimp only [st]
      have hd:¬ ((g.width.toNat:Nat):Int) < g.width:=by omega
      obtain ⟨p0,p1,p2⟩:=zqE h
      obtain ⟨xp,hxp⟩:∃ x,rs[(parP g row).1.toNat]? =some x:=⟨_,List.getElem?_eq_getElem (by omega)⟩
      have hpo:pOf g row (rs.map (·.2))=xp.2:=by unfold pOf; simp [List.getD_eq_getElem?_getD,hxp]
      have hrl:(zem g row rs g.width.toNat).length < 100000:=by simp [zem]; omega
      have hsol:=fun tq q=>zyN xp.1 tq .lent xp.2 q hrl
      rw [zsE] at hsol
      rw [hpo]
      rcases p2 with ⟨p2,_⟩ | ⟨q0,q1,_⟩
      · have hqo:qOf g row (rs.map (·.2))=[]:=by unfold qOf; rw [if_pos (by omega)]
        have hq:(parP g row).2 < 0:=by omega
        have hs:=hsol .nil []
        rw [show uL []=([]:List D) from rfl] at hs
        rw [hqo]
        simp (disch:=first | omega | assumption | (simp; done) | fail) [-List.all_eq_true,zl2,hd,ziZ,hq,p0,zap (zdt hxp),hs]
        cases zh7 xp.2 [] (zeB g row (rs.map (·.2)))<;>simp [-List.all_eq_true,solD,zhi]
      · obtain ⟨xq,hxq⟩:∃ x,rs[(parP g row).2.toNat]? =some x:=⟨_,List.getElem?_eq_getElem (by omega)⟩
        have hqo:qOf g row (rs.map (·.2))=xq.2:=by unfold qOf; rw [if_neg (by omega)]; simp [List.getD_eq_getElem?_getD,hxq]
        have hq:¬ (parP g row).2 < 0:=by omega
        rw [hqo]
        simp (disch:=first | omega | assumption | (simp; done) | fail) [-List.all_eq_true,zl2,hd,ziZ,hq,p0,q0,zap (zdt hxp),zap (zdt hxq),hsol]
        cases zh7 xp.2 xq.2 (zeB g row (rs.map (·.2)))<;>simp [-List.all_eq_true,solD,zhi]
  · have h2:¬ (true=true∧(((rs.map (·.2)).length:Nat):Int)=g.d):=by rintro ⟨_,e⟩; simp at e; exact hl e
    rw [if_neg h2]
    simp [zkg,h,solD,hl]
end Wf

namespace Wf
open Go Go.RowKit Go.Proofs
set_option linter.unusedSimpArgs false
set_option linter.unusedVariables false
set_option maxHeartbeats 4000000
theorem zgK (live:List Bool):D.lentL (live.map D.bool)=live.map D.bool:=by
  induction live with
  | nil=>rfl
  | cons x l ih=>simp [ih]
theorem zld (acts:Nat→List Act):∀ (n k:Nat) (B:Ben),runE (fun k B=>runA (acts k) B) k n B=runA ((List.range' k n).flatMap acts) B
  | 0,k,B=>rfl
  | n+1,k,B=>by
    rw [List.range'_succ,List.flatMap_cons,zjR]
    show (if (runA (acts k) B).1=0 then _ else _)=_
    rw [zld acts n (k+1)]
theorem zi1 (a:Act) (B:Ben):runA [a] B=B.act a:=by
  rw [zn4]
  by_cases h:(B.act a).1=0
  · rw [if_pos h]
    show (0,(B.act a).2)=B.act a
    rw [←h]
  · rw [if_neg h]
section
variable {B:Ben} {d a e:Int} {x:List Int}
theorem zos {s:DS} (hd:B.is d=true) (hf:s.failed=(B.dk d).failed):(B.setD d s).failed e=B.failed e:=by
  unfold Ben.failed
  rw [ztk]
  cases he:B.is e
  · rfl
  · rw [zf1 hd (zfi.1 he).1]
    split
    · rename_i q; subst q; rw [hf]
    · rfl
theorem zpL (B:Ben) (d a:Int) (x:List Int):(B.write d a x).2.n=B.n∧∀ e,(B.write d a x).2.failed e=B.failed e:=by
  unfold Ben.write
  split
  · exact ⟨rfl,fun _=>rfl⟩
  · rename_i h0
    have hd:=(may0.1 (Classical.not_not.1 h0)).1
    split
    · exact ⟨rfl,fun _=>rfl⟩
    · split
      · exact ⟨rfl,fun _=>rfl⟩
      · exact ⟨by simp,fun e=>zos (B:=(B.junk _).less) hd rfl⟩
theorem zvB (hB:B.Ok) (d:Int):(B.flush d).2.n=B.n∧∀ e,(B.flush d).2.failed e=B.failed e:=by
  unfold Ben.flush
  split
  · exact ⟨rfl,fun _=>rfl⟩
  · rename_i h0
    have hd:=(may0.1 (Classical.not_not.1 h0)).1
    refine ⟨by simp,fun e=>zos hd ?_⟩
    unfold DS.flush
    split
    · rfl
    · exact zjv (zn0 hB d).1
def Like (B B':Ben):Prop:=B'.n=B.n∧∀ e,B'.failed e=B.failed e
theorem Like.refl (B:Ben):Like B B:=⟨rfl,fun _=>rfl⟩
theorem Like.trans {A B C:Ben} (h1:Like A B) (h2:Like B C):Like A C:=⟨h2.1.trans h1.1,fun e=>(h2.2 e).trans (h1.2 e)⟩
theorem Like.up {B B':Ben} (h:Like B B') (live:List Bool) (e:Int):B'.up live e=B.up live e:=by unfold Ben.up; rw [h.1,h.2]
end
section
variable {T0 T1:Tb} {b:Nat} {idx:List Nat} {B:Ben}
theorem zsF (h:At T0 T1 b idx B) (hw:B.w≤999000) (tg:Tag) (live:List Bool) (g:Geo) (r:Int) (tg2:Tag) {ps:List Part} (hn:ps.length < 100000) (hs:∀ x∈ps,Sec x.2):
    zgb [.h kB b 0,.sl tg (live.map D.bool),.agg [.int .i64 g.l,.int .i64 g.d,.int .i64 g.c],.int .i64 r,.sl tg2 (pL ps)] [P0 T0 b idx B,P1 T1 idx B]=
      some (Ans.mk (.int .i64 (B.sWrite live g r (ps.map (·.2))).1) [] [P0 T0 b idx (B.sWrite live g r (ps.map (·.2))).2,P1 T1 idx (B.sWrite live g r (ps.map (·.2))).2]):=by
  rw [zlZ,zgK,zcP]
  have hlen:(ps.map fun x=>(zbU x.1 x.2,x.2)).length=ps.length:=by simp
  have hm:(ps.map fun x=>(zbU x.1 x.2,x.2)).map (·.2)=ps.map (·.2):=by rw [List.map_map]; rfl
  have hs':∀ x∈(ps.map fun x=>(zbU x.1 x.2,x.2)),Sec x.2:=by intro x hx; obtain ⟨y,hy,rfl⟩:=List.mem_map.1 hx; exact hs y hy
  rw [←hlen] at hn
  rw [←hm]
  generalize (ps.map fun x=>(zbU x.1 x.2,x.2))=rs at*
  clear hm hlen hs ps
  unfold zgc Ben.sWrite
  have hfill:=zuJ g r .lent hn
  cases hf:ztm g r (rs.map (·.2)) with
  | none=>
    rw [hf] at hfill
    simp [hfill,solD]
  | some o=>
    have hf0:=hf
    unfold ztm at hf0
    split at hf0
    rotate_left
    · cases hf0
    rename_i hc
    obtain ⟨hr,hlw,hall⟩:=hc
    cases hf0
    have hR:Row g (rs.map (·.2)):=⟨hlw,by intro x hx; obtain ⟨y,hy,rfl⟩:=List.mem_map.1 hx; exact hs' y hy⟩
    generalize rs.map (·.2)=data at*
    rw [hf] at hfill
    obtain ⟨hk,r0,r1⟩:=zbP.1 hr
    have hdd:=ok_d hk
    rw [if_neg (by simp)]
    have hrl:=zlA g r data
    let acts:Nat→List Act:=fun d=>if B.up live d then [.w d (36+r) (atR g r data d)] else []
    have hacts:B.wActs live g r data=(List.range' 0 g.d.toNat).flatMap acts:=by unfold Ben.wActs; rw [List.range_eq_range']
    rw [hacts,←zld]
    let st:Nat→Ben→(Nat×List D×Int×List D×Int×Int×PUnit)×List (List D)×List (List D)×PUnit:=fun k B'=>((b,live.map D.bool,r,pL (fP (zhm g r data)),(g.d.toNat:Int),(k:Int),PUnit.unit),P0 T0 b idx B',P1 T1 idx B',PUnit.unit)
    have hst:st 0 B=((b,live.map D.bool,r,pL (fP (zhm g r data)),(g.d.toNat:Int),0,PUnit.unit),P0 T0 b idx B,P1 T1 idx B,PUnit.unit):=rfl
    simp (disch:=first | omega | assumption | (simp; done) | fail) only [hfill,solD,zac,znU,zxr,zb9,zde,Bool.not_true,zaG,zae,Nat.zero_add,Nat.le_refl,zxj,zBN,hrl]
    rw [←hst]
    refine zn3 (fun k B'=>runA (acts k) B') (fun k B'=>Nx k B B'∧Like B B') st (fun y=>some (Ans.mk (.int .i64 y.1) [] [P0 T0 b idx y.2,P1 T1 idx y.2])) g.d.toNat (by omega) ⟨.rfl' h.ok (by omega),.refl B⟩ ?_ ?_ ?_
    · rintro k B' hk' ⟨hx,hL⟩ he
      dsimp only [acts] at he ⊢
      have hsec:=zuB hr hR (d:=(k:Int)) (by omega) (by omega)
      cases hu:B.up live (k:Int)
      · exact ⟨hx.mono (by omega),hL⟩
      · rw [if_pos rfl,zi1]
        exact ⟨(hx.trans (zuu hx.ok (.inl hsec))).mono (by omega),hL.trans (zpL ..)⟩
    · rintro again k B' hk' ⟨hx,hL⟩
      dsimp only [st]
      have hA:=h.nx hx
      have hxw:=hx.w
      have hw':B'.w≤1000000:=by omega
      have hg:(pL (fP (zhm g r data)))[k]? =some (.sl .fresh (uL (atR g r data k))):=zdt (zuG (zlz (by omega)))
      have hup:=zAx hA .lent live (d:=(k:Int)) (by omega)
      rw [hL.up] at hup
      by_cases hu:B.up live (k:Int)=true
      rotate_left
      · have hu':B.up live (k:Int)=false:=by simpa using hu
        rw [hu'] at hup
        rw [show acts k=[] from if_neg hu]
        simp (disch:=first | omega | assumption | (simp; done) | fail) [hk',hrl,zap hg,hup,zat,runA]
      · rw [hu] at hup
        rw [show acts k=[.w k (36+r) (atR g r data k)] from if_pos hu,zi1]
        have hwr:=zxh hA hw' (k:Int) (36+r) .fresh (atR g r data k)
        by_cases he:(B'.write k (36+r) (atR g r data k)).1=0
        · simp (disch:=first | omega | assumption | (simp; done) | fail) [hk',hrl,zap hg,hup,zat,hwr,he,Ben.act]
        · simp (disch:=first | omega | assumption | (simp; done) | fail) [hk',hrl,zap hg,hup,zat,hwr,he,Ben.act]
    · rintro again B' ⟨hx,hL⟩
      dsimp only [st]
      simp
theorem zsG (h:At T0 T1 b idx B) (hw:B.w≤999000) (tg:Tag) (live:List Bool):
    zgd [.h kB b 0,.sl tg (live.map D.bool)] [P0 T0 b idx B,P1 T1 idx B]=some (Ans.mk (.int .i64 (B.sFlush live).1) [] [P1 T1 idx (B.sFlush live).2]):=by
  rw [zl0,zgK]
  unfold zge Ben.sFlush
  let acts:Nat→List Act:=fun d=>if B.up live d then [.f d] else []
  have hacts:B.fActs live=(List.range' 0 B.ds.length).flatMap acts:=by unfold Ben.fActs; rw [List.range_eq_range']
  have hsm:=h.ok.small
  rw [hacts,←zld]
  let st:Nat→Ben→(Nat×List D×Int×Int×PUnit)×List (List D)×List (List D)×PUnit:=fun k B'=>((b,live.map D.bool,(B.ds.length:Int),(k:Int),PUnit.unit),P0 T0 b idx B,P1 T1 idx B',PUnit.unit)
  have hst:st 0 B=((b,live.map D.bool,(B.ds.length:Int),0,PUnit.unit),P0 T0 b idx B,P1 T1 idx B,PUnit.unit):=rfl
  have hl:=zvw h
  unfold Ben.n at hl
  simp (disch:=first | omega | assumption | (simp; done) | fail) only [hl,zac,zbl,zbm]
  rw [←hst]
  refine zn3 (fun k B'=>runA (acts k) B') (fun k B'=>Nx 0 B B'∧Like B B'∧P0 T0 b idx B'=P0 T0 b idx B) st (fun y=>some (Ans.mk (.int .i64 y.1) [] [P1 T1 idx y.2])) B.ds.length (by omega) ⟨.rfl' h.ok (by omega),.refl B,rfl⟩ ?_ ?_ ?_
  · rintro k B' hk' ⟨hx,hL,h0⟩ he
    dsimp only [acts] at he ⊢
    cases hu:B.up live (k:Int)
    · exact ⟨hx,hL,h0⟩
    · rw [if_pos rfl,zi1]
      refine ⟨(hx.trans (zyo hx.ok)).mono (by omega),hL.trans (zvB hx.ok _),?_⟩
      show P0 T0 b idx (B'.flush k).2=_
      rw [←h0]
      unfold Ben.flush
      split<;>rfl
  · rintro again k B' hk' ⟨hx,hL,h0⟩
    dsimp only [st]
    have hA:=h.nx hx
    have hxw:=hx.w
    have hw':B'.w≤1000000:=by omega
    have hup:=zAx hA .lent live (d:=(k:Int)) (by omega)
    rw [hL.up,h0] at hup
    by_cases hu:B.up live (k:Int)=true
    rotate_left
    · have hu':B.up live (k:Int)=false:=by simpa using hu
      rw [hu'] at hup
      rw [show acts k=[] from if_neg hu]
      simp (disch:=first | omega | assumption | (simp; done) | fail) [hk',hup,zat,runA]
    · rw [hu] at hup
      rw [show acts k=[.f k] from if_pos hu,zi1]
      have hfl:=zxi hA hw' (k:Int)
      rw [h0] at hfl
      by_cases he:(B'.flush k).1=0
      · simp (disch:=first | omega | assumption | (simp; done) | fail) [hk',hup,zat,hfl,he,Ben.act]
      · simp (disch:=first | omega | assumption | (simp; done) | fail) [hk',hup,zat,hfl,he,Ben.act]
  · rintro again B' ⟨hx,hL,h0⟩
    dsimp only [st]
    simp
end
end Wf

namespace Wf
open Go Go.RowKit Go.Proofs
set_option linter.unusedSimpArgs false
set_option linter.unusedVariables false
set_option maxHeartbeats 4000000
theorem zxs {p q:List Int} {ls o:List (List Int)} (h:zh7 p q ls=some o):o.length=ls.length:=by
  unfold zh7 at h
  split at h
  · cases h
  split at h
  · cases h
  split at h
  · cases h; simp [zce]
  · split at h
    · cases h; simp [zce]
    · cases h; simp [zce]
  · cases h; simp [zce]
theorem zyR {g:Geo} {r:Int} {ls o:List (List Int)} (h:zox g r ls=some o):o.length=g.width.toNat:=by
  unfold zox at h
  split at h
  · rw [zxs h]; simp [zeB]
  · cases h
section
variable {T0 T1:Tb} {b:Nat} {idx:List Nat} {B:Ben}
theorem zAA {live:List Bool} {d a:Int} (hdn:B.down=false) (d0:0≤d) (hu:B.up live d=true) (a0:0≤a) (a1:a < 52):B.read d a=(B.cur d a,0):=by
  obtain ⟨h1,h2,_⟩:=zyv d0 hu
  rw [zkP h1] at h2
  unfold Ben.read
  rw [if_neg (by rw [may0.2 ⟨h1,hdn⟩]; simp)]
  unfold DS.read
  rw [if_neg (by rw [zqB.2 ⟨h2,a0,a1⟩]; simp)]
  rfl
theorem zxt {live:List Bool} {d:Int} (a:Int) (hdn:B.down=true) (d0:0≤d) (hu:B.up live d=true):B.read d a=([],6):=by
  obtain ⟨h1,h2,_⟩:=zyv d0 hu
  have hm:B.may d=6:=by unfold Ben.may; rw [h1,hdn]; rfl
  unfold Ben.read
  rw [hm]; simp
def Ben.secP (B:Ben) (live:List Bool) (r:Int) (n k:Nat):List Part:=(List.range n).map fun (d:Nat)=>if d < k then (if B.up live d then (Tag.fresh,B.cur d (36+r)) else (Tag.nil,[])) else (Tag.nil,[])
theorem zyS (live:List Bool) (r:Int) (n:Nat):(B.secP live r n n).map (·.2)=B.secs live r n:=by
  unfold Ben.secP Ben.secs
  rw [List.map_map]
  apply List.map_congr_left
  intro d hd
  have:=List.mem_range.1 hd
  simp only [Function.comp_apply,if_pos this]
  split<;>rfl
@[simp] theorem zq6 (live:List Bool) (r:Int) (n k:Nat):(B.secP live r n k).length=n:=by simp [Ben.secP]
theorem zxu (live:List Bool) (r:Int) {n k:Nat} (hk:k < n) (hu:B.up live k=true):(B.secP live r n k).set k (Tag.fresh,B.cur k (36+r))=B.secP live r n (k+1):=by
  apply List.ext_getElem?
  intro j
  rw [List.getElem?_set]
  unfold Ben.secP
  by_cases hj:j < n
  · by_cases hjk:k=j
    · subst hjk; simp [hj,hu]
    · rw [if_neg hjk]
      simp only [List.getElem?_map,List.getElem?_range hj,Option.map_some]
      by_cases h1:j < k
      · simp only [if_pos h1,if_pos (show j < k+1 by omega)]
      · simp only [if_neg h1,if_neg (show ¬ j < k+1 by omega)]
  · have h1:k≠j:=by omega
    rw [if_neg h1,List.getElem?_eq_none (by simp; omega),List.getElem?_eq_none (by simp; omega)]
theorem zxv (live:List Bool) (r:Int) {n k:Nat} (hk:k < n) (hu:B.up live k=false):B.secP live r n k=B.secP live r n (k+1):=by
  unfold Ben.secP
  apply List.map_congr_left
  intro j hj
  by_cases h1:j < k
  · simp only [if_pos h1,if_pos (show j < k+1 by omega)]
  · by_cases hjk:j=k
    · subst hjk; simp [hu]
    · simp only [if_neg h1,if_neg (show ¬ j < k+1 by omega)]
theorem zxw (live:List Bool) (r:Int) (n:Nat):pL (B.secP live r n 0)=List.replicate n (D.sl .nil []):=by
  unfold Ben.secP pL
  rw [List.map_map]
  apply List.ext_getElem?
  intro j
  by_cases hj:j < n
  · simp [hj,uL]
  · rw [List.getElem?_eq_none (by simp; omega),List.getElem?_eq_none (by simp; omega)]
theorem zAB (live:List Bool) (r:Int) {n k:Nat} (hk:k < n):(B.secP live r n k)[k]? =some (Tag.nil,[]):=by unfold Ben.secP; simp [hk]
theorem ztF (h:At T0 T1 b idx B) (hw:B.w≤1000000) (tg:Tag) (live:List Bool) (g:Geo) (r:Int):
    zbH [.h kB b 0,.sl tg (live.map D.bool),.agg [.int .i64 g.l,.int .i64 g.d,.int .i64 g.c],.int .i64 r] [P0 T0 b idx B,P1 T1 idx B]=
      some (Ans.mk (.tup [.sl .own (pL (fP (B.sRead live g r).1)),.int .i64 (B.sRead live g r).2]) [] []):=by
  rw [zmN,zgK]
  unfold zhc Ben.sRead
  have hck:zaf [.agg [.int .i64 g.l,.int .i64 g.d,.int .i64 g.c]]=some (.int .i64 (if g.ok then 0 else 1)):=zej g.l g.d g.c
  cases hk:g.ok
  · have hf:zcs g r=false:=by unfold zcs; rw [hk]; rfl
    rw [hk] at hck
    simp [hck,hf]; rfl
  rw [hk] at hck
  by_cases r0:r < 0
  · have hf:zcs g r=false:=by unfold zcs; rw [hk]; simp; omega
    simp [hck,hf,r0]; rfl
  by_cases r1:r≥16
  · have hf:zcs g r=false:=by unfold zcs; rw [hk]; simp; omega
    simp [hck,hf,r0,show 16≤r by omega]; rfl
  have hr:zcs g r=true:=zbP.2 ⟨hk,by omega,by omega⟩
  have hdd:=ok_d hk
  rw [if_neg (by simp [hr])]
  have r1':¬ 16≤r:=by omega
  simp (disch:=first | omega | assumption | (simp; done) | fail) only [hck,if_true,zac,zbm,zh3,zCt,zae,List.length_replicate,Nat.zero_add,Nat.le_refl]
  let st:Nat→(Nat×List D×Int×(Int×Int×Int×PUnit)×List D×Int×Int×PUnit)×List (List D)×List (List D)×PUnit:=fun k=>
    ((b,live.map D.bool,r,(g.l,g.d,g.c,PUnit.unit),pL (B.secP live r g.d.toNat k),((g.d.toNat:Nat):Int),(k:Int),PUnit.unit),P0 T0 b idx B,P1 T1 idx B,PUnit.unit)
  have hst:st 0=((b,live.map D.bool,r,(g.l,g.d,g.c,PUnit.unit),List.replicate g.d.toNat (D.sl .nil []),((g.d.toNat:Nat):Int),0,PUnit.unit),P0 T0 b idx B,P1 T1 idx B,PUnit.unit):=by
    simp only [st,zxw]; rfl
  rw [←hst]
  refine zlt (fun x=>g.d.toNat - x.1.2.2.2.2.2.2.1.toNat) (fun _=>_) (fun x=>∃ k:Nat,k≤g.d.toNat∧(B.down=true→∀ j:Nat,j < k→B.up live j=false)∧x=st k) ?_ ⟨0,by omega,fun _ j hj=>by omega,rfl⟩ (by simp [st]; omega)
  rintro again _ ⟨k,hk',hdn,rfl⟩ hag
  dsimp only [st]
  by_cases hlt:k < g.d.toNat
  · have hup:=zAx h .lent live (d:=(k:Int)) (by omega)
    by_cases hu:B.up live (k:Int)=true
    · rw [hu] at hup
      cases hdo:B.down
      · have hrd:=zzl h hw (k:Int) (36+r)
        rw [zAA hdo (by omega) hu (by omega) (by omega)] at hrd
        have hg:=zAB (B:=B) live r hlt
        have:=hag (st (k+1)) ⟨k+1,by omega,fun e=>(by rw [hdo] at e; cases e),rfl⟩ (by simp [st]; omega)
        dsimp only [st] at this
        rw [←zxu live r hlt hu] at this
        simp (disch:=first | omega | assumption | (simp; done) | fail) [hlt,hup,hrd,zat,zq6,zap (zdt hg),zm3,zsB]
        rw [show ((k+1:Nat):Int)=(k:Int)+1 by omega] at this
        simpa [hdo] using this
      · have hrd:=zzl h hw (k:Int) (36+r)
        rw [zxt (36+r) hdo (by omega) hu] at hrd
        have hany:(List.range g.d.toNat).any (fun (d:Nat)=>B.up live d)=true:=by
          rw [List.any_eq_true]; exact ⟨k,List.mem_range.2 hlt,hu⟩
        rw [hany]
        simp (disch:=first | omega | assumption | (simp; done) | fail) [hlt,hup,hrd,zat]
        rfl
    · have hu':B.up live (k:Int)=false:=by simpa using hu
      rw [hu'] at hup
      have:=hag (st (k+1)) ⟨k+1,by omega,fun e j hj=>by
        by_cases ej:j=k
        · subst ej; exact hu'
        · exact hdn e j (by omega),rfl⟩ (by simp [st]; omega)
      dsimp only [st] at this
      rw [←zxv live r hlt hu'] at this
      rw [show ((k+1:Nat):Int)=(k:Int)+1 by omega] at this
      simp (disch:=first | omega | assumption | (simp; done) | fail) [hlt,hup,zat]
      simpa using this
  · have hke:k=g.d.toNat:=by omega
    have hno:¬ (B.down=true∧(List.range g.d.toNat).any (fun (d:Nat)=>B.up live d)=true):=by
      rintro ⟨e1,e2⟩
      rw [List.any_eq_true] at e2
      obtain ⟨j,hj,hu⟩:=e2
      rw [hdn e1 j (by rw [hke]; exact List.mem_range.1 hj)] at hu; cases hu
    rw [if_neg hno]
    have htk:=zyQ g r .lent (ps:=B.secP live r g.d.toNat g.d.toNat) (by rw [zq6]; omega)
    rw [zyS] at htk
    subst hke
    simp (disch:=first | omega | assumption | (simp; done) | fail) [-List.all_eq_true,zl2,zq6,htk]
    cases zox g r (B.secs live r g.d.toNat) with
    | none=>simp [-List.all_eq_true,solD]; rfl
    | some o=>simp [-List.all_eq_true,solD,zhi]
end
end Wf

