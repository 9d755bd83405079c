/- A part of the proof: lemmas that the law's row leans on. -/
import Derived.Test.YtlbdpbbpoghncaaGreatPd
set_option linter.all false
namespace Wf
open Go Go.RowKit Go.Proofs
open PUnit (unit)
abbrev Zp:=List D→Option D
abbrev Zs:=List D→List Tb→Option Ans
def dd:Nat→List SS→List SS
 | 0,l=>l
 | n+1,l=>.dead::dd n l
set_option linter.unusedVariables false
set_option maxRecDepth 100000
def zgo:Ann:={ loops:=[] }
noncomputable def zac:Zp:=denP Tryz.prog (zax []) zgo [0] ID.wattlekeep_Within
theorem zjI:za2 Tryz.prog ID.wattlekeep_Within (.pure [0] zac):=zam (zaA []) zbn ⟨Tryz.f12,by kernel_rfl,by kernel_rfl,by kernel_rfl⟩
noncomputable def zde:Fact Tryz.prog:=⟨ID.wattlekeep_Within,(.pure [0] zac),zjI⟩
noncomputable def ze0 (a0 a1:Int):Option D:=
 brK (decide (a1 < 1))
  (some (.int .i64 0))
  (sif (a1≠0) <|
  letN (Int.tmod a0 a1) fun n1=>
  brK (decide (n1 < 0))
   (letN (IntKind.i64.wrap (n1+a1)) fun n2=>
   some (.int .i64 n2))
   (some (.int .i64 n1)))
theorem zny (a0 a1:Int):denP Tryz.prog (zax []) zgo [0] ID.wattlekeep_Within [.int .i64 a0,.int .i64 a1]=ze0 a0 a1:=by kernel_rfl
theorem zkr (a0 a1:Int):zac [.int .i64 a0,.int .i64 a1]=ze0 a0 a1:=zny a0 a1
def zgp:Ann:={ loops:=[] }
noncomputable def zai:Zp:=denP Tryz.prog (zax []) zgp [0] ID.wattleref01_Check
theorem zjJ:za2 Tryz.prog ID.wattleref01_Check (.pure [0] zai):=zam (zaA []) zbn ⟨Tryz.f46,by kernel_rfl,by kernel_rfl,by kernel_rfl⟩
noncomputable def zdf:Fact Tryz.prog:=⟨ID.wattleref01_Check,(.pure [0] zai),zjJ⟩
noncomputable def ze1 (a0_0 a0_1 a0_2:Int):Option D:=
 brK (a0_0 == 6)
  (brK (a0_0 == 5)
   (brK (decide (a0_1≥4))
    (brK (decide (a0_1≤8))
     (brK (a0_2 == 1)
      (some (.bool true))
      (brK (a0_2 == 2)
       (some (.bool true))
       (some (.bool (a0_2 == 4)))))
     (some (.bool false)))
    (some (.bool false)))
   (brK (a0_0 == 6)
    (brK (decide (a0_1≥4))
     (brK (decide (a0_1≤8))
      (brK (a0_2 == 1)
       (some (.bool true))
       (brK (a0_2 == 2)
        (some (.bool true))
        (some (.bool (a0_2 == 4)))))
      (some (.bool false)))
     (some (.bool false)))
    (some (.bool false))))
  (brK (a0_0 == 5)
   (brK (decide (a0_1≥3))
    (brK (decide (a0_1≤8))
     (brK (a0_2 == 1)
      (some (.bool true))
      (brK (a0_2 == 2)
       (some (.bool true))
       (some (.bool (a0_2 == 4)))))
     (some (.bool false)))
    (some (.bool false)))
   (brK (a0_0 == 6)
    (brK (decide (a0_1≥3))
     (brK (decide (a0_1≤8))
      (brK (a0_2 == 1)
       (some (.bool true))
       (brK (a0_2 == 2)
        (some (.bool true))
        (some (.bool (a0_2 == 4)))))
      (some (.bool false)))
     (some (.bool false)))
    (some (.bool false))))
theorem znz (a0_0 a0_1 a0_2:Int):denP Tryz.prog (zax []) zgp [0] ID.wattleref01_Check [.agg [.int .i64 a0_0,.int .i64 a0_1,.int .i64 a0_2]]=ze1 a0_0 a0_1 a0_2:=by kernel_rfl
theorem zks (a0_0 a0_1 a0_2:Int):zai [.agg [.int .i64 a0_0,.int .i64 a0_1,.int .i64 a0_2]]=ze1 a0_0 a0_1 a0_2:=znz a0_0 a0_1 a0_2
def zfO:Ann:={ loops:=[] }
noncomputable def zaG:Zp:=denP Tryz.prog (zax [(ID.wattleref01_Check,(.pure [0] zai))]) zfO [0] ID.wattleref01_Budget
theorem zi3:za2 Tryz.prog ID.wattleref01_Budget (.pure [0] zaG):=zam (zaA [zdf]) zbn ⟨Tryz.f95,by kernel_rfl,by kernel_rfl,by kernel_rfl⟩
noncomputable def zfq:Fact Tryz.prog:=⟨ID.wattleref01_Budget,(.pure [0] zaG),zi3⟩
noncomputable def zeF (zai:Zp) (a0_0 a0_1 a0_2:Int):Option D:=
 zan (zai [.agg [.int .i64 a0_0,.int .i64 a0_1,.int .i64 a0_2]]) fun r1=>
 asB r1 fun b2=>
 brK (!b2)
  (some (.int .i64 0))
  (letN (IntKind.i64.wrap (a0_0 - 4)) fun n3=>
  some (.int .i64 n3))
theorem zmw (zai:Zp) (a0_0 a0_1 a0_2:Int):denP Tryz.prog (zax [(ID.wattleref01_Check,(.pure [0] zai))]) zfO [0] ID.wattleref01_Budget [.agg [.int .i64 a0_0,.int .i64 a0_1,.int .i64 a0_2]]=zeF zai a0_0 a0_1 a0_2:=by kernel_rfl
theorem zjK (a0_0 a0_1 a0_2:Int):zaG [.agg [.int .i64 a0_0,.int .i64 a0_1,.int .i64 a0_2]]=zeF zai a0_0 a0_1 a0_2:=zmw zai a0_0 a0_1 a0_2
def zgq:Ann:={ loops:=[] }
noncomputable def zab:Zp:=denP Tryz.prog (zax [(ID.wattleref01_Check,(.pure [0] zai)),(ID.wattleref01_Budget,(.pure [0] zaG))]) zgq [0] ID.wattleref01_Width
theorem zjL:za2 Tryz.prog ID.wattleref01_Width (.pure [0] zab):=zam (zaA [zdf,zfq]) zbn ⟨Tryz.f49,by kernel_rfl,by kernel_rfl,by kernel_rfl⟩
noncomputable def zcb:Fact Tryz.prog:=⟨ID.wattleref01_Width,(.pure [0] zab),zjL⟩
noncomputable def ze2 (zai zaG:Zp) (a0_0 a0_1 a0_2:Int):Option D:=
 zan (zai [.agg [.int .i64 a0_0,.int .i64 a0_1,.int .i64 a0_2]]) fun r1=>
 asB r1 fun b2=>
 brK (!b2)
  (some (.int .i64 0))
  (zan (zaG [.agg [.int .i64 a0_0,.int .i64 a0_1,.int .i64 a0_2]]) fun r3=>
  asI .i64 r3 fun i4=>
  letN (IntKind.i64.wrap (a0_1 - i4)) fun n5=>
  some (.int .i64 n5))
theorem znA (zai zaG:Zp) (a0_0 a0_1 a0_2:Int):denP Tryz.prog (zax [(ID.wattleref01_Check,(.pure [0] zai)),(ID.wattleref01_Budget,(.pure [0] zaG))]) zgq [0] ID.wattleref01_Width [.agg [.int .i64 a0_0,.int .i64 a0_1,.int .i64 a0_2]]=ze2 zai zaG a0_0 a0_1 a0_2:=by kernel_rfl
theorem zkt (a0_0 a0_1 a0_2:Int):zab [.agg [.int .i64 a0_0,.int .i64 a0_1,.int .i64 a0_2]]=ze2 zai zaG a0_0 a0_1 a0_2:=znA zai zaG a0_0 a0_1 a0_2
def zhy:Ann:={ loops:=[] }
noncomputable def zay:Zp:=denP Tryz.prog (zax [(ID.wattleref01_Check,(.pure [0] zai)),(ID.wattleref01_Width,(.pure [0] zab))]) zhy [0] ID.wattleref01_Can
theorem zli:za2 Tryz.prog ID.wattleref01_Can (.pure [0] zay):=zam (zaA [zdf,zcb]) zbn ⟨Tryz.f83,by kernel_rfl,by kernel_rfl,by kernel_rfl⟩
noncomputable def zeG:Fact Tryz.prog:=⟨ID.wattleref01_Can,(.pure [0] zay),zli⟩
noncomputable def zf1 (zai zab:Zp) (a0_0 a0_1 a0_2 a1_0 a1_1 a1_2:Int):Option D:=
 zan (zai [.agg [.int .i64 a0_0,.int .i64 a0_1,.int .i64 a0_2]]) fun r1=>
 asB r1 fun b2=>
 brK b2
  (zan (zai [.agg [.int .i64 a1_0,.int .i64 a1_1,.int .i64 a1_2]]) fun r3=>
  asB r3 fun b4=>
  brK b4
   (brK (!(a0_0 == a1_0 && (a0_1 == a1_1 && (a0_2 == a1_2 && true))))
    (brK (decide (a1_1≥a0_1))
     (brK (decide (a1_0≥a0_0))
      (zan (zab [.agg [.int .i64 a1_0,.int .i64 a1_1,.int .i64 a1_2]]) fun r5=>
      asI .i64 r5 fun i6=>
      zan (zab [.agg [.int .i64 a0_0,.int .i64 a0_1,.int .i64 a0_2]]) fun r7=>
      asI .i64 r7 fun i8=>
      some (.bool (decide (i6≥i8))))
      (some (.bool false)))
     (some (.bool false)))
    (some (.bool false)))
   (some (.bool false)))
  (some (.bool false))
theorem zpK (zai zab:Zp) (a0_0 a0_1 a0_2 a1_0 a1_1 a1_2:Int):denP Tryz.prog (zax [(ID.wattleref01_Check,(.pure [0] zai)),(ID.wattleref01_Width,(.pure [0] zab))]) zhy [0] ID.wattleref01_Can [.agg [.int .i64 a0_0,.int .i64 a0_1,.int .i64 a0_2],.agg [.int .i64 a1_0,.int .i64 a1_1,.int .i64 a1_2]]=zf1 zai zab a0_0 a0_1 a0_2 a1_0 a1_1 a1_2:=by kernel_rfl
theorem zmx (a0_0 a0_1 a0_2 a1_0 a1_1 a1_2:Int):zay [.agg [.int .i64 a0_0,.int .i64 a0_1,.int .i64 a0_2],.agg [.int .i64 a1_0,.int .i64 a1_1,.int .i64 a1_2]]=zf1 zai zab a0_0 a0_1 a0_2 a1_0 a1_1 a1_2:=zpK zai zab a0_0 a0_1 a0_2 a1_0 a1_1 a1_2
def zhz:Ann:={ loops:=[] }
noncomputable def zbN:Zp:=denP Tryz.prog (zax [(ID.wattlekeep_Within,(.pure [0] zac)),(ID.wattleref01_Can,(.pure [0] zay))]) zhz [0,0] ID.wattleplay_Pair
theorem zlj:za2 Tryz.prog ID.wattleplay_Pair (.pure [0,0] zbN):=zam (zaA [zde,zeG]) zbn ⟨Tryz.f38,by kernel_rfl,by kernel_rfl,by kernel_rfl⟩
noncomputable def zmy:Fact Tryz.prog:=⟨ID.wattleplay_Pair,(.pure [0,0] zbN),zlj⟩
noncomputable def zf2 (zac zay:Zp) (a0 a1:Int):Option D:=
 zan (zac [.int .i64 a0,.int .i64 2]) fun r1=>
 asI .i64 r1 fun i2=>
 letN (IntKind.i64.wrap (3+i2)) fun n3=>
 letN (IntKind.i64.wrap (Int.tdiv a0 (2:Int))) fun n4=>
 zan (zac [.int .i64 n4,.int .i64 3]) fun r5=>
 asI .i64 r5 fun i6=>
 sif (0≤i6) <|
 getK ([.int .i64 1,.int .i64 2,.int .i64 4]) (i6.toNat) fun d7=>
 asI .i64 d7 fun i8=>
 letN (IntKind.i64.wrap (Int.tdiv a0 (6:Int))) fun n9=>
 zan (zac [.int .i64 n9,.int .i64 4]) fun r10=>
 asI .i64 r10 fun i11=>
 brK (i11 == 3)
  (zan (zac [.int .i64 a0,.int .i64 2]) fun r12=>
  asI .i64 r12 fun i13=>
  letN (IntKind.i64.wrap (4+i13)) fun n14=>
  zan (zac [.int .i64 a1,.int .i64 3]) fun r15=>
  asI .i64 r15 fun i16=>
  letN (IntKind.i64.wrap (n14+i16)) fun n17=>
  letN (IntKind.i64.wrap (Int.tdiv a1 (3:Int))) fun n18=>
  zan (zac [.int .i64 n18,.int .i64 3]) fun r19=>
  asI .i64 r19 fun i20=>
  sif (0≤i20) <|
  getK ([.int .i64 1,.int .i64 2,.int .i64 4]) (i20.toNat) fun d21=>
  asI .i64 d21 fun i22=>
  zan (zay [.agg [.int .i64 6,.int .i64 n14,.int .i64 i8],.agg [.int .i64 6,.int .i64 n17,.int .i64 i22]]) fun r23=>
  asB r23 fun b24=>
  brK (!b24)
   (letN (IntKind.i64.wrap (n17+1)) fun n25=>
   some (.tup [.agg [.int .i64 6,.int .i64 n14,.int .i64 i8],.agg [.int .i64 6,.int .i64 n25,.int .i64 i22]]))
   (some (.tup [.agg [.int .i64 6,.int .i64 n14,.int .i64 i8],.agg [.int .i64 6,.int .i64 n17,.int .i64 i22]])))
  (zan (zac [.int .i64 a1,.int .i64 3]) fun r26=>
  asI .i64 r26 fun i27=>
  letN (IntKind.i64.wrap (n3+i27)) fun n28=>
  letN (IntKind.i64.wrap (Int.tdiv a1 (3:Int))) fun n29=>
  zan (zac [.int .i64 n29,.int .i64 3]) fun r30=>
  asI .i64 r30 fun i31=>
  sif (0≤i31) <|
  getK ([.int .i64 1,.int .i64 2,.int .i64 4]) (i31.toNat) fun d32=>
  asI .i64 d32 fun i33=>
  letN (IntKind.i64.wrap (Int.tdiv a1 (9:Int))) fun n34=>
  zan (zac [.int .i64 n34,.int .i64 2]) fun r35=>
  asI .i64 r35 fun i36=>
  brK (i36 == 1)
   (letN (IntKind.i64.wrap (n3+1)) fun n37=>
   letN (max n28 n37) fun n38=>
   zan (zay [.agg [.int .i64 5,.int .i64 n3,.int .i64 i8],.agg [.int .i64 6,.int .i64 n38,.int .i64 i33]]) fun r39=>
   asB r39 fun b40=>
   brK (!b40)
    (letN (IntKind.i64.wrap (n38+1)) fun n41=>
    some (.tup [.agg [.int .i64 5,.int .i64 n3,.int .i64 i8],.agg [.int .i64 6,.int .i64 n41,.int .i64 i33]]))
    (some (.tup [.agg [.int .i64 5,.int .i64 n3,.int .i64 i8],.agg [.int .i64 6,.int .i64 n38,.int .i64 i33]])))
   (zan (zay [.agg [.int .i64 5,.int .i64 n3,.int .i64 i8],.agg [.int .i64 5,.int .i64 n28,.int .i64 i33]]) fun r42=>
   asB r42 fun b43=>
   brK (!b43)
    (letN (IntKind.i64.wrap (n28+1)) fun n44=>
    some (.tup [.agg [.int .i64 5,.int .i64 n3,.int .i64 i8],.agg [.int .i64 5,.int .i64 n44,.int .i64 i33]]))
    (some (.tup [.agg [.int .i64 5,.int .i64 n3,.int .i64 i8],.agg [.int .i64 5,.int .i64 n28,.int .i64 i33]]))))
theorem zpL (zac zay:Zp) (a0 a1:Int):denP Tryz.prog (zax [(ID.wattlekeep_Within,(.pure [0] zac)),(ID.wattleref01_Can,(.pure [0] zay))]) zhz [0,0] ID.wattleplay_Pair [.int .i64 a0,.int .i64 a1]=zf2 zac zay a0 a1:=by kernel_rfl
theorem zmz (a0 a1:Int):zbN [.int .i64 a0,.int .i64 a1]=zf2 zac zay a0 a1:=zpL zac zay a0 a1
def zqG:Ann:={ loops:=[],pubs:=[(1,[(0,128,8225)])],ks:=[(8225,true)] }
noncomputable def zdk:Zs:=denS Tryz.prog (zax []) zqG [0] ID.disk_New
theorem ztw:za2 Tryz.prog ID.disk_New (.st [] [0] [(8225,true)] zdk):=zbg (zaA []) zbn ⟨Tryz.f94,by kernel_rfl,by kernel_rfl,by kernel_rfl⟩
noncomputable def zvR:Fact Tryz.prog:=⟨ID.disk_New,(.st [] [0] [(8225,true)] zdk),ztw⟩
noncomputable def zpM (T0:Tb):Option Ans:=
 letT (T0++[List.map D.own0 (List.reverse ([.bool false,.sl .nil []]++List.replicate 1664 (.int .u8 0)))]) fun U1=>
 some (Ans.mk (.h (8225:Nat) (T0.length) (0:Nat)) [] [U1])
theorem zA5 (T0:Tb):denS Tryz.prog (zax []) zqG [0] ID.disk_New [] [T0]=zpM T0:=by kernel_rfl
theorem zvS (T0:Tb):zdk [] [T0]=zpM T0:=zA5 T0
def zoJ:Ann:={ loops:=[(1,dd 4 (.val (.cell (.hnd (2496:Nat)))::dd 9 [.val (.cell (.int .i64)),.val (.cell (.int .i64))]))],pubs:=[(3,[(4,42,2496)])],ks:=[(2496,true),(8225,true)] }
noncomputable def zbH:Zs:=denS Tryz.prog (zax [(ID.disk_New,(.st [] [0] [(8225,true)] zdk))]) zoJ [0,0] ID.bench_New
theorem zsG:za2 Tryz.prog ID.bench_New (.st [] [0,0] [(2496,true),(8225,true)] zbH):=zbg (zaA [zvR]) zbn ⟨Tryz.f47,by kernel_rfl,by kernel_rfl,by kernel_rfl⟩
noncomputable def zm2:Fact Tryz.prog:=⟨ID.bench_New,(.st [] [0,0] [(2496,true),(8225,true)] zbH),zsG⟩
noncomputable def znB (zdk:Zs) (a0:Int) (T0 T1:Tb):Option Ans:=
 brK (decide (a0 < 1))
  (some (Ans.mk (.tup [D.nilp,.int .i64 1]) [] [T0,T1]))
  (brK (decide (a0 > 8))
   (some (Ans.mk (.tup [D.nilp,.int .i64 1]) [] [T0,T1]))
   (letT (T0++[[D.own0 (.int .i64 0),D.own0 (.int .i64 (-1)),D.own0 (.bool false),D.own0 (.sl .nil [])]]) fun U1=>
   zb3 (α:=(Nat×Int×Int×PUnit)×List (List D)×List (List D)×PUnit) (fun again2 ((x3,(i4,(i5,_))),(U6,(U7,_)))=>
    brK (decide (i5 < i4))
     (getK U6 x3 fun d8=>
     getK d8 ((3:Nat)) fun d9=>
     zbe d9 fun l10=>
     zan (zdk [] [U7]) fun r11=>
     nilK r11.outs <|
     zeE r11.tbs fun c12 q13=>
     nilK q13 <|
     sif (zhs r11.r=true) <|
     sif (zeC (1:Nat) [r11.r]=true) <|
     getK U6 x3 fun d14=>
     getK d14 ((3:Nat)) fun d15=>
     zbe d15 fun l16=>
     sif (l10.length+1≤4294967296) <|
     sif (zeC (1:Nat) [r11.r]=true) <|
     sif (l10.length=l16.length) <|
     letT (setT U6 x3 (3:Nat) D.undef) fun U17=>
     getK U17 x3 fun d18=>
     sif (4≤d18.length) <|
     sif (l10.length+1=List.length (l16++[r11.r])) <|
     sif (zdC (l16++[r11.r])=true) <|
     sif (zgm (1:Nat) (l16++[r11.r])=true) <|
     letT (za8 U17 x3 (3:Nat) [.sl .own (l16++[r11.r])]) fun U19=>
     letN (IntKind.i64.wrap (i5+1)) fun n20=>
     again2 (((x3,i4,n20,unit),U19,c12,unit)))
     (some (Ans.mk (.tup [.h (2496) x3 (0:Nat),.int .i64 0]) [] [U6,U7])))
    (((T0.length,a0,(0:Int),unit),U1,T1,unit))))
theorem zyV (zdk:Zs) (a0:Int) (T0 T1:Tb):denS Tryz.prog (zax [(ID.disk_New,(.st [] [0] [(8225,true)] zdk))]) zoJ [0,0] ID.bench_New [.int .i64 a0] [T0,T1]=znB zdk a0 T0 T1:=by kernel_rfl
theorem ztx (a0:Int) (T0 T1:Tb):zbH [.int .i64 a0] [T0,T1]=znB zdk a0 T0 T1:=zyV zdk a0 T0 T1
def zgr:Ann:={ loops:=[(1,.val (.cell (.int .i64))::dd 2 (.own 1::dd 7 [.val (.cell (.int .i64)),.val (.cell (.int .i64))]))] }
noncomputable def zbj:Zp:=denP Tryz.prog (zax [(ID.wattlekeep_Within,(.pure [0] zac))]) zgr [1] ID.wattleplay_Sector
theorem zjM:za2 Tryz.prog ID.wattleplay_Sector (.pure [1] zbj):=zam (zaA [zde]) zbn ⟨Tryz.f13,by kernel_rfl,by kernel_rfl,by kernel_rfl⟩
noncomputable def zku:Fact Tryz.prog:=⟨ID.wattleplay_Sector,(.pure [1] zbj),zjM⟩
noncomputable def ze3 (zac:Zp) (a0:Int):Option D:=
 zan (zac [.int .i64 a0,.int .i64 11]) fun r1=>
 asI .i64 r1 fun i2=>
 brK (i2 == 10)
  (some (.sl .own [.int .u8 0,.int .u8 0,.int .u8 0,.int .u8 0,.int .u8 0,.int .u8 0,.int .u8 0,.int .u8 0,.int .u8 0,.int .u8 0,.int .u8 0,.int .u8 0,.int .u8 0,.int .u8 0,.int .u8 0,.int .u8 0,.int .u8 0,.int .u8 0,.int .u8 0,.int .u8 0,.int .u8 0,.int .u8 0,.int .u8 0,.int .u8 0,.int .u8 0,.int .u8 0,.int .u8 0,.int .u8 0,.int .u8 0,.int .u8 0,.int .u8 0,.int .u8 0]))
  (zb3 (α:=(Int×List D×Int×Int×PUnit)×PUnit) (fun again3 ((i4,(l5,(i6,(i7,_)))),_)=>
   brK (decide (i7 < i6))
    (letN (IntKind.i64.wrap (Int.tdiv i4 (7:Int))) fun n8=>
    letN (bits BinOp.or IntKind.i64 n8 (1:Int)) fun n9=>
    letN (IntKind.i64.wrap (i7*n9)) fun n10=>
    letN (IntKind.i64.wrap (i4+n10)) fun n11=>
    letN (IntKind.wrap IntKind.u8 n11) fun n12=>
    sif (0≤i7) <|
    sif (i7.toNat < l5.length) <|
    getK l5 (0+i7.toNat) fun d13=>
    sif (D.isAgg d13=false) <|
    letN (IntKind.i64.wrap (i7+1)) fun n14=>
    sif (l5.length=List.length (List.set l5 (0+i7.toNat) (D.int .u8 n12))) <|
    again3 (((i4,List.set l5 (0+i7.toNat) (.int .u8 n12),i6,n14,unit),unit)))
    (sif (l5.length=l5.length) <|
    sif (List.all l5 D.free=true) <|
    some (.sl .own l5)))
   (((a0,[.int .u8 0,.int .u8 0,.int .u8 0,.int .u8 0,.int .u8 0,.int .u8 0,.int .u8 0,.int .u8 0,.int .u8 0,.int .u8 0,.int .u8 0,.int .u8 0,.int .u8 0,.int .u8 0,.int .u8 0,.int .u8 0,.int .u8 0,.int .u8 0,.int .u8 0,.int .u8 0,.int .u8 0,.int .u8 0,.int .u8 0,.int .u8 0,.int .u8 0,.int .u8 0,.int .u8 0,.int .u8 0,.int .u8 0,.int .u8 0,.int .u8 0,.int .u8 0],(32:Int),(0:Int),unit),unit)))
theorem znC (zac:Zp) (a0:Int):denP Tryz.prog (zax [(ID.wattlekeep_Within,(.pure [0] zac))]) zgr [1] ID.wattleplay_Sector [.int .i64 a0]=ze3 zac a0:=by kernel_rfl
theorem zkv (a0:Int):zbj [.int .i64 a0]=ze3 zac a0:=znC zac a0
def zfP:Ann:={ loops:=[(0,.val (.cell .lent)::.val (.cell (.int .i64))::dd 3 [.own 1,.val (.cell (.int .i64))])] }
noncomputable def zaH:Zp:=denP Tryz.prog (zax [(ID.wattleplay_Sector,(.pure [1] zbj))]) zfP [1] ID.wattleplay_Sectors
theorem zi4:za2 Tryz.prog ID.wattleplay_Sectors (.pure [1] zaH):=zam (zaA [zku]) zbn ⟨Tryz.f48,by kernel_rfl,by kernel_rfl,by kernel_rfl⟩
noncomputable def zfr:Fact Tryz.prog:=⟨ID.wattleplay_Sectors,(.pure [1] zaH),zi4⟩
noncomputable def zeH (zbj:Zp) (a0:List D) (a1:Int):Option D:=
 zb3 (α:=(List D×Int×List D×Int×PUnit)×PUnit) (fun again1 ((l2,(i3,(l4,(i5,_)))),_)=>
  brK (decide (i5 < i3))
   (letN (IntKind.i64.wrap ((3:Int)*i5)) fun n6=>
   brK (decide (i5 < (↑(l2.length):Int)))
    (sif (0≤i5) <|
    getK l2 (i5.toNat) fun d7=>
    asI .i64 d7 fun i8=>
    zan (zbj [.int .i64 i8]) fun r9=>
    zbe r9 fun l10=>
    sif (0+l10.length≤l10.length) <|
    sif (l4.length+1≤4294967296) <|
    sif (l4.length=l4.length) <|
    letN (IntKind.i64.wrap (i5+1)) fun n11=>
    sif (l4.length+1=List.length (l4++[D.sl .fresh (cut 0 l10.length l10)])) <|
    again1 (((l2,i3,l4++[.sl .fresh (cut 0 l10.length l10)],n11,unit),unit)))
    (zan (zbj [.int .i64 n6]) fun r12=>
    zbe r12 fun l13=>
    sif (0+l13.length≤l13.length) <|
    sif (l4.length+1≤4294967296) <|
    sif (l4.length=l4.length) <|
    letN (IntKind.i64.wrap (i5+1)) fun n14=>
    sif (l4.length+1=List.length (l4++[D.sl .fresh (cut 0 l13.length l13)])) <|
    again1 (((l2,i3,l4++[.sl .fresh (cut 0 l13.length l13)],n14,unit),unit))))
   (sif (l4.length=l4.length) <|
   sif (List.all l4 D.free=true) <|
   some (.sl .own l4)))
  (((a0,a1,[],(0:Int),unit),unit))
theorem zmA (zbj:Zp) (tga0:Tag) (a0:List D) (a1:Int):denP Tryz.prog (zax [(ID.wattleplay_Sector,(.pure [1] zbj))]) zfP [1] ID.wattleplay_Sectors [.sl tga0 a0,.int .i64 a1]=zeH zbj (D.lentL a0) a1:=by kernel_rfl
theorem zjN (tga0:Tag) (a0:List D) (a1:Int):zaH [.sl tga0 a0,.int .i64 a1]=zeH zbj (D.lentL a0) a1:=zmA zbj tga0 a0 a1
def zgL:Ann:={ loops:=[] }
noncomputable def zaj:Zp:=denP Tryz.prog (zax [(ID.wattleref01_Check,(.pure [0] zai))]) zgL [0] ID.wattleref01_fine
theorem zkw:za2 Tryz.prog ID.wattleref01_fine (.pure [0] zaj):=zam (zaA [zdf]) zbn ⟨Tryz.f59,by kernel_rfl,by kernel_rfl,by kernel_rfl⟩
noncomputable def zdr:Fact Tryz.prog:=⟨ID.wattleref01_fine,(.pure [0] zaj),zkw⟩
noncomputable def zfs (zai:Zp) (a0_0 a0_1 a0_2 a1:Int):Option D:=
 zan (zai [.agg [.int .i64 a0_0,.int .i64 a0_1,.int .i64 a0_2]]) fun r1=>
 asB r1 fun b2=>
 brK b2
  (brK (decide (a1≥0))
   (some (.bool (decide (a1 < 16))))
   (some (.bool false)))
  (some (.bool false))
theorem zoK (zai:Zp) (a0_0 a0_1 a0_2 a1:Int):denP Tryz.prog (zax [(ID.wattleref01_Check,(.pure [0] zai))]) zgL [0] ID.wattleref01_fine [.agg [.int .i64 a0_0,.int .i64 a0_1,.int .i64 a0_2],.int .i64 a1]=zfs zai a0_0 a0_1 a0_2 a1:=by kernel_rfl
theorem zlk (a0_0 a0_1 a0_2 a1:Int):zaj [.agg [.int .i64 a0_0,.int .i64 a0_1,.int .i64 a0_2],.int .i64 a1]=zfs zai a0_0 a0_1 a0_2 a1:=zoK zai a0_0 a0_1 a0_2 a1
def zfQ:Ann:={ loops:=[] }
noncomputable def zaE:Zp:=denP Tryz.prog (zax [(ID.wattleref01_fine,(.pure [0] zaj))]) zfQ [0,0] ID.wattleref01_Parity
theorem zi5:za2 Tryz.prog ID.wattleref01_Parity (.pure [0,0] zaE):=zam (zaA [zdr]) zbn ⟨Tryz.f91,by kernel_rfl,by kernel_rfl,by kernel_rfl⟩
noncomputable def zft:Fact Tryz.prog:=⟨ID.wattleref01_Parity,(.pure [0,0] zaE),zi5⟩
noncomputable def zeI (zaj:Zp) (a0_0 a0_1 a0_2 a1:Int):Option D:=
 zan (zaj [.agg [.int .i64 a0_0,.int .i64 a0_1,.int .i64 a0_2],.int .i64 a1]) fun r1=>
 asB r1 fun b2=>
 brK (!b2)
  (some (.tup [.int .i64 (-1),.int .i64 (-1)]))
  (letN (IntKind.i64.wrap (a0_1 - 1)) fun n3=>
  sif (a0_2≠0) <|
  letN (IntKind.i64.wrap (Int.tdiv a1 a0_2)) fun n4=>
  sif (a0_1≠0) <|
  letN (Int.tmod n4 a0_1) fun n5=>
  letN (IntKind.i64.wrap (n3 - n5)) fun n6=>
  brK (a0_0 == 5)
   (some (.tup [.int .i64 n6,.int .i64 (-1)]))
   (letN (IntKind.i64.wrap (n6+1)) fun n7=>
   sif (a0_1≠0) <|
   letN (Int.tmod n7 a0_1) fun n8=>
   some (.tup [.int .i64 n6,.int .i64 n8])))
theorem zmB (zaj:Zp) (a0_0 a0_1 a0_2 a1:Int):denP Tryz.prog (zax [(ID.wattleref01_fine,(.pure [0] zaj))]) zfQ [0,0] ID.wattleref01_Parity [.agg [.int .i64 a0_0,.int .i64 a0_1,.int .i64 a0_2],.int .i64 a1]=zeI zaj a0_0 a0_1 a0_2 a1:=by kernel_rfl
theorem zjO (a0_0 a0_1 a0_2 a1:Int):zaE [.agg [.int .i64 a0_0,.int .i64 a0_1,.int .i64 a0_2],.int .i64 a1]=zeI zaj a0_0 a0_1 a0_2 a1:=zmB zaj a0_0 a0_1 a0_2 a1
def zgM:Ann:={ loops:=[] }
noncomputable def zbp:Zp:=denP Tryz.prog (zax [(ID.wattleref01_fine,(.pure [0] zaj)),(ID.wattleref01_Width,(.pure [0] zab)),(ID.wattleref01_Parity,(.pure [0,0] zaE)),(ID.wattleref01_Budget,(.pure [0] zaG))]) zgM [0] ID.wattleref01_Disk
theorem zkx:za2 Tryz.prog ID.wattleref01_Disk (.pure [0] zbp):=zam (zaA [zdr,zcb,zft,zfq]) zbn ⟨Tryz.f52,by kernel_rfl,by kernel_rfl,by kernel_rfl⟩
noncomputable def zll:Fact Tryz.prog:=⟨ID.wattleref01_Disk,(.pure [0] zbp),zkx⟩
noncomputable def zfu (zaj zab zaE zaG:Zp) (a0_0 a0_1 a0_2 a1 a2:Int):Option D:=
 zan (zaj [.agg [.int .i64 a0_0,.int .i64 a0_1,.int .i64 a0_2],.int .i64 a1]) fun r1=>
 asB r1 fun b2=>
 brK (!b2)
  (some (.int .i64 (-1)))
  (brK (decide (a2 < 0))
   (some (.int .i64 (-1)))
   (zan (zab [.agg [.int .i64 a0_0,.int .i64 a0_1,.int .i64 a0_2]]) fun r3=>
   asI .i64 r3 fun i4=>
   brK (decide (a2≥i4))
    (some (.int .i64 (-1)))
    (zan (zaE [.agg [.int .i64 a0_0,.int .i64 a0_1,.int .i64 a0_2],.int .i64 a1]) fun r5=>
    zdP r5 fun ts6=>
    zaz ([Lf.any,Lf.any]) ts6 fun c7=>
    asI .i64 c7.1 fun i8=>
    asI .i64 c7.2.1 fun i9=>
    zan (zaG [.agg [.int .i64 a0_0,.int .i64 a0_1,.int .i64 a0_2]]) fun r10=>
    asI .i64 r10 fun i11=>
    letN (IntKind.i64.wrap (i8+i11)) fun n12=>
    letN (IntKind.i64.wrap (n12+a2)) fun n13=>
    sif (a0_1≠0) <|
    letN (Int.tmod n13 a0_1) fun n14=>
    some (.int .i64 n14))))
theorem zoL (zaj zab zaE zaG:Zp) (a0_0 a0_1 a0_2 a1 a2:Int):denP Tryz.prog (zax [(ID.wattleref01_fine,(.pure [0] zaj)),(ID.wattleref01_Width,(.pure [0] zab)),(ID.wattleref01_Parity,(.pure [0,0] zaE)),(ID.wattleref01_Budget,(.pure [0] zaG))]) zgM [0] ID.wattleref01_Disk [.agg [.int .i64 a0_0,.int .i64 a0_1,.int .i64 a0_2],.int .i64 a1,.int .i64 a2]=zfu zaj zab zaE zaG a0_0 a0_1 a0_2 a1 a2:=by kernel_rfl
theorem zlm (a0_0 a0_1 a0_2 a1 a2:Int):zbp [.agg [.int .i64 a0_0,.int .i64 a0_1,.int .i64 a0_2],.int .i64 a1,.int .i64 a2]=zfu zaj zab zaE zaG a0_0 a0_1 a0_2 a1 a2:=zoL zaj zab zaE zaG a0_0 a0_1 a0_2 a1 a2
def zgs:Ann:={ loops:=[(0,.val (.cell .lent)::dd 4 [.val (.cell .lent),.val (.cell (.int .i64)),.val (.cell (.int .i64))])] }
noncomputable def zaK:Zp:=denP Tryz.prog (zax []) zgs [0] ID.wattleref01_alike
theorem zjP:za2 Tryz.prog ID.wattleref01_alike (.pure [0] zaK):=zam (zaA []) zbn ⟨Tryz.f126,by kernel_rfl,by kernel_rfl,by kernel_rfl⟩
noncomputable def zfR:Fact Tryz.prog:=⟨ID.wattleref01_alike,(.pure [0] zaK),zjP⟩
noncomputable def ze4 (a0:List D):Option D:=
 zb3 (α:=(List D×List D×Int×Int×PUnit)×PUnit) (fun again1 ((l2,(l3,(i4,(i5,_)))),_)=>
  brK (decide (i5 < i4))
   (sif (0≤i5) <|
   getK l3 (i5.toNat) fun d6=>
   asSl d6 fun t7 l8=>
   getK l2 ((0:Nat)) fun d9=>
   asSl d9 fun t10 l11=>
   brK ((↑(l8.length):Int) != (↑(l11.length):Int))
    (some (.bool false))
    (letN (IntKind.i64.wrap (i5+1)) fun n12=>
    again1 (((l2,l3,i4,n12,unit),unit))))
   (some (.bool (decide ((↑(l2.length):Int) > 0)))))
  (((a0,a0,(↑(a0.length):Int),(0:Int),unit),unit))
theorem znD (tga0:Tag) (a0:List D):denP Tryz.prog (zax []) zgs [0] ID.wattleref01_alike [.sl tga0 a0]=ze4 (D.lentL a0):=by kernel_rfl
theorem zky (tga0:Tag) (a0:List D):zaK [.sl tga0 a0]=ze4 (D.lentL a0):=znD tga0 a0
def zi6:Ann:={ loops:=[(1,dd 3 (.own 1::dd 12 [.val (.cell .lent),.val (.cell (.int .i64)),.val (.cell (.int .i64))])),(3,dd 3 (.own 1::dd 12 (.val (.cell .lent)::.val (.cell (.int .i64))::.val (.cell (.int .i64))::dd 3 [.val (.cell .sl),.val (.cell (.int .i64)),.val (.cell (.int .i64))])))] }
noncomputable def zb4:Zp:=denP Tryz.prog (zax [(ID.wattleref01_alike,(.pure [0] zaK))]) zi6 [1] ID.wattleref01_P
theorem znE:za2 Tryz.prog ID.wattleref01_P (.pure [1] zb4):=zam (zaA [zfR]) zbn ⟨Tryz.f92,by kernel_rfl,by kernel_rfl,by kernel_rfl⟩
noncomputable def zoM:Fact Tryz.prog:=⟨ID.wattleref01_P,(.pure [1] zb4),znE⟩
noncomputable def zhA (zaK:Zp) (a0:List D):Option D:=
 zan (zaK [.sl .lent a0]) fun r1=>
 asB r1 fun b2=>
 brK (!b2)
  (some (.sl .own []))
  (getK a0 ((0:Nat)) fun d3=>
  asSl d3 fun t4 l5=>
  sif ((↑(l5.length):Int)=(↑(l5.length):Int)) <|
  sif ((↑(l5.length):Int)*1≤140737488355328) <|
  sif ((↑(l5.length):Int)≤140737488355328) <|
  sif (Int.toNat (↑(l5.length):Int)=List.length (List.replicate (Int.toNat (↑(l5.length):Int)) (D.int .u8 0))) <|
  zb3 (α:=(List D×List D×Int×Int×PUnit)×PUnit) (fun again6 ((l7,(l8,(i9,(i10,_)))),_)=>
   brK (decide (i10 < i9))
    (sif (0≤i10) <|
    getK l8 (i10.toNat) fun d11=>
    asSl d11 fun t12 l13=>
    sif (l7.length=l7.length) <|
    zb3 (α:=(List D×List D×Int×Int×(Tag×List D)×Int×Int×PUnit)×PUnit) (fun again14 ((l15,(l16,(i17,(i18,((t19,l20),(i21,(i22,_))))))),_)=>
     brK (decide (i22 < i21))
      (sif (0≤i22) <|
      getK l20 (i22.toNat) fun d23=>
      asI .u8 d23 fun i24=>
      sif (0≤i22) <|
      sif (i22.toNat < l15.length) <|
      getK l15 (0+i22.toNat) fun d25=>
      asI .u8 d25 fun i26=>
      letN (bits BinOp.xor IntKind.u8 i26 i24) fun n27=>
      sif (0≤i22) <|
      sif (i22.toNat < l15.length) <|
      getK l15 (0+i22.toNat) fun d28=>
      sif (D.isAgg d28=false) <|
      letN (IntKind.i64.wrap (i22+1)) fun n29=>
      sif (l15.length=List.length (List.set l15 (0+i22.toNat) (D.int .u8 n27))) <|
      again14 (((List.set l15 (0+i22.toNat) (.int .u8 n27),l16,i17,i18,(t19,l20),i21,n29,unit),unit)))
      (letN (IntKind.i64.wrap (i18+1)) fun n30=>
      sif (l15.length=l15.length) <|
      again6 (((l15,l16,i17,n30,unit),unit))))
     (((l7,l8,i9,i10,(t12,l13),(↑(l13.length):Int),(0:Int),unit),unit)))
    (sif (l7.length=l7.length) <|
    sif (List.all l7 D.free=true) <|
    some (.sl .own l7)))
   (((List.replicate (Int.toNat (↑(l5.length):Int)) (.int .u8 0),a0,(↑(a0.length):Int),(0:Int),unit),unit)))
theorem zsH (zaK:Zp) (tga0:Tag) (a0:List D):denP Tryz.prog (zax [(ID.wattleref01_alike,(.pure [0] zaK))]) zi6 [1] ID.wattleref01_P [.sl tga0 a0]=zhA zaK (D.lentL a0):=by kernel_rfl
theorem zoN (tga0:Tag) (a0:List D):zb4 [.sl tga0 a0]=zhA zaK (D.lentL a0):=zsH zaK tga0 a0
def zhB:Ann:={ loops:=[(0,.dead::.val (.cell (.int .u8))::dd 3 [.val (.cell (.int .i64)),.val (.cell (.int .i64)),.val (.cell (.int .i64))])] }
noncomputable def zaR:Zp:=denP Tryz.prog (zax []) zhB [0] ID.wattleref01_Mul
theorem zln:za2 Tryz.prog ID.wattleref01_Mul (.pure [0] zaR):=zam (zaA []) zbn ⟨Tryz.f128,by kernel_rfl,by kernel_rfl,by kernel_rfl⟩
noncomputable def zgN:Fact Tryz.prog:=⟨ID.wattleref01_Mul,(.pure [0] zaR),zln⟩
noncomputable def zf3 (a0 a1:Int):Option D:=
 letN (IntKind.wrap IntKind.i64 a0) fun n1=>
 zb3 (α:=(Int×Int×Int×Int×PUnit)×PUnit) (fun again2 ((i3,(i4,(i5,(i6,_)))),_)=>
  brK (decide (i6 < 8))
   (letN (IntKind.wrap IntKind.u64 i6) fun n7=>
   sif (0≤n7) <|
   letN (Int.fdiv i3 ((2:Int) ^ min (n7.toNat) (8:Nat))) fun n8=>
   letN (bits BinOp.and IntKind.u8 n8 (1:Int)) fun n9=>
   brK (n9 == 1)
    (letN (bits BinOp.xor IntKind.i64 i5 i4) fun n10=>
    letN (IntKind.i64.wrap (i4*2)) fun n11=>
    brK (decide (n11 > 255))
     (letN (bits BinOp.xor IntKind.i64 n11 (285:Int)) fun n12=>
     letN (IntKind.i64.wrap (i6+1)) fun n13=>
     again2 (((i3,n12,n10,n13,unit),unit)))
     (letN (IntKind.i64.wrap (i6+1)) fun n14=>
     again2 (((i3,n11,n10,n14,unit),unit))))
    (letN (IntKind.i64.wrap (i4*2)) fun n15=>
    brK (decide (n15 > 255))
     (letN (bits BinOp.xor IntKind.i64 n15 (285:Int)) fun n16=>
     letN (IntKind.i64.wrap (i6+1)) fun n17=>
     again2 (((i3,n16,i5,n17,unit),unit)))
     (letN (IntKind.i64.wrap (i6+1)) fun n18=>
     again2 (((i3,n15,i5,n18,unit),unit)))))
   (letN (IntKind.wrap IntKind.u8 i5) fun n19=>
   some (.int .u8 n19)))
  (((a1,n1,(0:Int),(0:Int),unit),unit))
theorem zpN (a0 a1:Int):denP Tryz.prog (zax []) zhB [0] ID.wattleref01_Mul [.int .u8 a0,.int .u8 a1]=zf3 a0 a1:=by kernel_rfl
theorem zmC (a0 a1:Int):zaR [.int .u8 a0,.int .u8 a1]=zf3 a0 a1:=zpN a0 a1
def zhC:Ann:={ loops:=[(1,[.val (.cell (.int .i64)),.dead,.dead,.val (.cell (.int .u8))])] }
noncomputable def zbO:Zp:=denP Tryz.prog (zax [(ID.wattleref01_Mul,(.pure [0] zaR))]) zhC [0] ID.wattleref01_Pow
theorem zlo:za2 Tryz.prog ID.wattleref01_Pow (.pure [0] zbO):=zam (zaA [zgN]) zbn ⟨Tryz.f127,by kernel_rfl,by kernel_rfl,by kernel_rfl⟩
noncomputable def zmD:Fact Tryz.prog:=⟨ID.wattleref01_Pow,(.pure [0] zbO),zlo⟩
noncomputable def zf4 (zaR:Zp) (a0:Int):Option D:=
 letN (Int.tmod a0 (255:Int)) fun n1=>
 brK (decide (n1 < 0))
  (letN (IntKind.i64.wrap (n1+255)) fun n2=>
  zb3 (α:=(Int×Int×PUnit)×PUnit) (fun again3 ((i4,(i5,_)),_)=>
   brK (decide (i4 > 0))
    (zan (zaR [.int .u8 i5,.int .u8 2]) fun r6=>
    asI .u8 r6 fun i7=>
    letN (IntKind.i64.wrap (i4 - 1)) fun n8=>
    again3 (((n8,i7,unit),unit)))
    (some (.int .u8 i5)))
   (((n2,(1:Int),unit),unit)))
  (zb3 (α:=(Int×Int×PUnit)×PUnit) (fun again9 ((i10,(i11,_)),_)=>
   brK (decide (i10 > 0))
    (zan (zaR [.int .u8 i11,.int .u8 2]) fun r12=>
    asI .u8 r12 fun i13=>
    letN (IntKind.i64.wrap (i10 - 1)) fun n14=>
    again9 (((n14,i13,unit),unit)))
    (some (.int .u8 i11)))
   (((n1,(1:Int),unit),unit)))
theorem zpO (zaR:Zp) (a0:Int):denP Tryz.prog (zax [(ID.wattleref01_Mul,(.pure [0] zaR))]) zhC [0] ID.wattleref01_Pow [.int .i64 a0]=zf4 zaR a0:=by kernel_rfl
theorem zmE (a0:Int):zbO [.int .i64 a0]=zf4 zaR a0:=zpO zaR a0
def zi7:Ann:={ loops:=[(1,dd 3 (.own 1::dd 13 [.val (.cell .lent),.val (.cell (.int .i64)),.val (.cell (.int .i64))])),(3,dd 3 (.own 1::dd 2 (.val (.cell (.int .u8))::dd 10 (.val (.cell .lent)::.val (.cell (.int .i64))::.val (.cell (.int .i64))::dd 6 [.val (.cell .sl),.val (.cell (.int .i64)),.val (.cell (.int .i64))]))))] }
noncomputable def zb5:Zp:=denP Tryz.prog (zax [(ID.wattleref01_alike,(.pure [0] zaK)),(ID.wattleref01_Pow,(.pure [0] zbO)),(ID.wattleref01_Mul,(.pure [0] zaR))]) zi7 [1] ID.wattleref01_Q
theorem znF:za2 Tryz.prog ID.wattleref01_Q (.pure [1] zb5):=zam (zaA [zfR,zmD,zgN]) zbn ⟨Tryz.f93,by kernel_rfl,by kernel_rfl,by kernel_rfl⟩
noncomputable def zoO:Fact Tryz.prog:=⟨ID.wattleref01_Q,(.pure [1] zb5),znF⟩
noncomputable def zhD (zaK zbO zaR:Zp) (a0:List D):Option D:=
 zan (zaK [.sl .lent a0]) fun r1=>
 asB r1 fun b2=>
 brK (!b2)
  (some (.sl .own []))
  (getK a0 ((0:Nat)) fun d3=>
  asSl d3 fun t4 l5=>
  sif ((↑(l5.length):Int)=(↑(l5.length):Int)) <|
  sif ((↑(l5.length):Int)*1≤140737488355328) <|
  sif ((↑(l5.length):Int)≤140737488355328) <|
  sif (Int.toNat (↑(l5.length):Int)=List.length (List.replicate (Int.toNat (↑(l5.length):Int)) (D.int .u8 0))) <|
  zb3 (α:=(List D×List D×Int×Int×PUnit)×PUnit) (fun again6 ((l7,(l8,(i9,(i10,_)))),_)=>
   brK (decide (i10 < i9))
    (sif (0≤i10) <|
    getK l8 (i10.toNat) fun d11=>
    asSl d11 fun t12 l13=>
    zan (zbO [.int .i64 i10]) fun r14=>
    asI .u8 r14 fun i15=>
    sif (l7.length=l7.length) <|
    zb3 (α:=(List D×Int×List D×Int×Int×(Tag×List D)×Int×Int×PUnit)×PUnit) (fun again16 ((l17,(i18,(l19,(i20,(i21,((t22,l23),(i24,(i25,_)))))))),_)=>
     brK (decide (i25 < i24))
      (sif (0≤i25) <|
      getK l23 (i25.toNat) fun d26=>
      asI .u8 d26 fun i27=>
      sif (0≤i25) <|
      sif (i25.toNat < l17.length) <|
      getK l17 (0+i25.toNat) fun d28=>
      asI .u8 d28 fun i29=>
      zan (zaR [.int .u8 i27,.int .u8 i18]) fun r30=>
      asI .u8 r30 fun i31=>
      letN (bits BinOp.xor IntKind.u8 i29 i31) fun n32=>
      sif (0≤i25) <|
      sif (i25.toNat < l17.length) <|
      getK l17 (0+i25.toNat) fun d33=>
      sif (D.isAgg d33=false) <|
      letN (IntKind.i64.wrap (i25+1)) fun n34=>
      sif (l17.length=List.length (List.set l17 (0+i25.toNat) (D.int .u8 n32))) <|
      again16 (((List.set l17 (0+i25.toNat) (.int .u8 n32),i18,l19,i20,i21,(t22,l23),i24,n34,unit),unit)))
      (letN (IntKind.i64.wrap (i21+1)) fun n35=>
      sif (l17.length=l17.length) <|
      again6 (((l17,l19,i20,n35,unit),unit))))
     (((l7,i15,l8,i9,i10,(t12,l13),(↑(l13.length):Int),(0:Int),unit),unit)))
    (sif (l7.length=l7.length) <|
    sif (List.all l7 D.free=true) <|
    some (.sl .own l7)))
   (((List.replicate (Int.toNat (↑(l5.length):Int)) (.int .u8 0),a0,(↑(a0.length):Int),(0:Int),unit),unit)))
theorem zsI (zaK zbO zaR:Zp) (tga0:Tag) (a0:List D):denP Tryz.prog (zax [(ID.wattleref01_alike,(.pure [0] zaK)),(ID.wattleref01_Pow,(.pure [0] zbO)),(ID.wattleref01_Mul,(.pure [0] zaR))]) zi7 [1] ID.wattleref01_Q [.sl tga0 a0]=zhD zaK zbO zaR (D.lentL a0):=by kernel_rfl
theorem zoP (tga0:Tag) (a0:List D):zb5 [.sl tga0 a0]=zhD zaK zbO zaR (D.lentL a0):=zsI zaK zbO zaR tga0 a0
def zgO:Ann:={ loops:=[(1,.dead::.val (.cell (.int .i64))::.val (.cell .lent)::.box true [(.int .i64),(.int .i64),(.int .i64)]::dd 4 (.own 1::dd 18 [.val (.cell .lent),.val (.cell (.int .i64)),.val (.cell (.int .i64))]))] }
noncomputable def zaM:Zp:=denP Tryz.prog (zax [(ID.wattleref01_fine,(.pure [0] zaj)),(ID.wattleref01_Width,(.pure [0] zab)),(ID.wattleref01_Disk,(.pure [0] zbp)),(ID.wattleref01_Parity,(.pure [0,0] zaE)),(ID.wattleref01_P,(.pure [1] zb4)),(ID.wattleref01_Q,(.pure [1] zb5))]) zgO [1,0] ID.wattleref01_Fill
theorem zkz:za2 Tryz.prog ID.wattleref01_Fill (.pure [1,0] zaM):=zam (zaA [zdr,zcb,zll,zft,zoM,zoO]) zbn ⟨Tryz.f43,by kernel_rfl,by kernel_rfl,by kernel_rfl⟩
noncomputable def zgt:Fact Tryz.prog:=⟨ID.wattleref01_Fill,(.pure [1,0] zaM),zkz⟩
noncomputable def zfv (zaj zab zbp zaE zb4 zb5:Zp) (a0_0 a0_1 a0_2 a1:Int) (a2:List D):Option D:=
 zan (zaj [.agg [.int .i64 a0_0,.int .i64 a0_1,.int .i64 a0_2],.int .i64 a1]) fun r1=>
 asB r1 fun b2=>
 brK (!b2)
  (some (.tup [.sl .own [],.bool false]))
  (zan (zab [.agg [.int .i64 a0_0,.int .i64 a0_1,.int .i64 a0_2]]) fun r3=>
  asI .i64 r3 fun i4=>
  brK ((↑(a2.length):Int) != i4)
   (some (.tup [.sl .own [],.bool false]))
   (sif (0≤a0_1) <|
   sif (a0_1=a0_1) <|
   sif (a0_1*24≤140737488355328) <|
   sif (a0_1≤140737488355328) <|
   sif (a0_1.toNat=List.length (List.replicate (a0_1.toNat) (D.sl .nil []))) <|
   zb3 (α:=(Int×List D×(Int×Int×Int×PUnit)×List D×List D×Int×Int×PUnit)×PUnit) (fun again5 ((i6,(l7,((i8,(i9,(i10,_))),(l11,(l12,(i13,(i14,_))))))),_)=>
    brK (decide (i14 < i13))
     (sif (0≤i14) <|
     getK l12 (i14.toNat) fun d15=>
     asSl d15 fun t16 l17=>
     brK ((↑(l17.length):Int) != 32)
      (some (.tup [.sl .own [],.bool false]))
      (zan (zbp [.agg [.int .i64 i8,.int .i64 i9,.int .i64 i10],.int .i64 i6,.int .i64 i14]) fun r18=>
      asI .i64 r18 fun i19=>
      sif (l17.length≤4294967296) <|
      sif (zeC (1:Nat) l17=true) <|
      sif (0≤i19) <|
      sif (i19.toNat < l11.length) <|
      sif (0+l17.length≤l17.length) <|
      getK l11 (0+i19.toNat) fun d20=>
      sif (0+l17.length≤l17.length) <|
      sif (D.isAgg d20=false) <|
      letN (IntKind.i64.wrap (i14+1)) fun n21=>
      sif (l11.length=List.length (List.set l11 (0+i19.toNat) (D.sl .fresh (cut 0 l17.length l17)))) <|
      again5 (((i6,l7,(i8,i9,i10,unit),List.set l11 (0+i19.toNat) (.sl .fresh (cut 0 l17.length l17)),l12,i13,n21,unit),unit))))
     (zan (zaE [.agg [.int .i64 i8,.int .i64 i9,.int .i64 i10],.int .i64 i6]) fun r22=>
     zdP r22 fun ts23=>
     zaz ([Lf.any,Lf.any]) ts23 fun c24=>
     asI .i64 c24.1 fun i25=>
     asI .i64 c24.2.1 fun i26=>
     zan (zb4 [.sl .lent l7]) fun r27=>
     zbe r27 fun l28=>
     sif (0≤i25) <|
     sif (i25.toNat < l11.length) <|
     sif (0+l28.length≤l28.length) <|
     getK l11 (0+i25.toNat) fun d29=>
     sif (0+l28.length≤l28.length) <|
     sif (D.isAgg d29=false) <|
     brK (decide (i26≥0))
      (zan (zb5 [.sl .lent l7]) fun r30=>
      zbe r30 fun l31=>
      sif (0≤i26) <|
      sif (i26.toNat < l11.length) <|
      sif (0+l31.length≤l31.length) <|
      getK (List.set l11 (0+i25.toNat) (.sl .fresh (cut 0 l28.length l28))) (0+i26.toNat) fun d32=>
      sif (0+l31.length≤l31.length) <|
      sif (D.isAgg d32=false) <|
      sif (l11.length=List.length (List.set (List.set l11 (0+i25.toNat) (D.sl .fresh (cut 0 l28.length l28))) (0+i26.toNat) (D.sl .fresh (cut 0 l31.length l31)))) <|
      sif (List.all (List.set (List.set l11 (0+i25.toNat) (D.sl .fresh (cut 0 l28.length l28))) (0+i26.toNat) (D.sl .fresh (cut 0 l31.length l31))) D.free=true) <|
      some (.tup [.sl .own (List.set (List.set l11 (0+i25.toNat) (.sl .fresh (cut 0 l28.length l28))) (0+i26.toNat) (.sl .fresh (cut 0 l31.length l31))),.bool true]))
      (sif (l11.length=List.length (List.set l11 (0+i25.toNat) (.sl .fresh (cut 0 l28.length l28)))) <|
      sif (List.all (List.set l11 (0+i25.toNat) (D.sl .fresh (cut 0 l28.length l28))) D.free=true) <|
      some (.tup [.sl .own (List.set l11 (0+i25.toNat) (.sl .fresh (cut 0 l28.length l28))),.bool true]))))
    (((a1,a2,(a0_0,a0_1,a0_2,unit),List.replicate (a0_1.toNat) (.sl .nil []),a2,(↑(a2.length):Int),(0:Int),unit),unit))))
theorem zoQ (zaj zab zbp zaE zb4 zb5:Zp) (tga2:Tag) (a0_0 a0_1 a0_2 a1:Int) (a2:List D):denP Tryz.prog (zax [(ID.wattleref01_fine,(.pure [0] zaj)),(ID.wattleref01_Width,(.pure [0] zab)),(ID.wattleref01_Disk,(.pure [0] zbp)),(ID.wattleref01_Parity,(.pure [0,0] zaE)),(ID.wattleref01_P,(.pure [1] zb4)),(ID.wattleref01_Q,(.pure [1] zb5))]) zgO [1,0] ID.wattleref01_Fill [.agg [.int .i64 a0_0,.int .i64 a0_1,.int .i64 a0_2],.int .i64 a1,.sl tga2 a2]=zfv zaj zab zbp zaE zb4 zb5 a0_0 a0_1 a0_2 a1 (D.lentL a2):=by kernel_rfl
theorem zlp (tga2:Tag) (a0_0 a0_1 a0_2 a1:Int) (a2:List D):zaM [.agg [.int .i64 a0_0,.int .i64 a0_1,.int .i64 a0_2],.int .i64 a1,.sl tga2 a2]=zfv zaj zab zbp zaE zb4 zb5 a0_0 a0_1 a0_2 a1 (D.lentL a2):=zoQ zaj zab zbp zaE zb4 zb5 tga2 a0_0 a0_1 a0_2 a1 a2
def zia:Ann:={ loops:=[],ks:=[(2496,false)] }
noncomputable def zas:Zs:=denS Tryz.prog (zax []) zia [0] ID.bench_Bench_is
theorem zmF:za2 Tryz.prog ID.bench_Bench_is (.st [] [0] [(2496,false)] zas):=zbg (zaA []) zbn ⟨Tryz.f74,by kernel_rfl,by kernel_rfl,by kernel_rfl⟩
noncomputable def zdQ:Fact Tryz.prog:=⟨ID.bench_Bench_is,(.st [] [0] [(2496,false)] zas),zmF⟩
noncomputable def zgD (a0:Nat) (a1:Int) (T0:Tb):Option Ans:=
 brK (decide (a1≥0))
  (getK T0 a0 fun d1=>
  getK d1 ((3:Nat)) fun d2=>
  zbe d2 fun l3=>
  getK T0 a0 fun d4=>
  getK d4 ((3:Nat)) fun d5=>
  zbe d5 fun l6=>
  sif (0+l3.length≤l6.length) <|
  some (Ans.mk (.bool (decide (a1 < (↑(l3.length):Int)))) [] []))
  (some (Ans.mk (.bool false) [] []))
theorem zqV (a0:Nat) (a1:Int) (T0:Tb):denS Tryz.prog (zax []) zia [0] ID.bench_Bench_is [.h 2496 a0 0,.int .i64 a1] [T0]=zgD a0 a1 T0:=by kernel_rfl
theorem znG (a0:Nat) (a1:Int) (T0:Tb):zas [.h 2496 a0 0,.int .i64 a1] [T0]=zgD a0 a1 T0:=zqV a0 a1 T0
def zi8:Ann:={ loops:=[],ks:=[(8225,false)] }
noncomputable def za5:Zs:=denS Tryz.prog (zax []) zi8 [0] ID.disk_Disk_may
theorem znH:za2 Tryz.prog ID.disk_Disk_may (.st [] [0] [(8225,false)] za5):=zbg (zaA []) zbn ⟨Tryz.f98,by kernel_rfl,by kernel_rfl,by kernel_rfl⟩
noncomputable def zib:Fact Tryz.prog:=⟨ID.disk_Disk_may,(.st [] [0] [(8225,false)] za5),znH⟩
noncomputable def zhE (a0:Nat) (a1:Int) (T0:Tb):Option Ans:=
 getK T0 a0 fun d1=>
 getK d1 ((1665:Nat)) fun d2=>
 asB d2 fun b3=>
 brK b3
  (some (Ans.mk (.int .i64 5) [] []))
  (brK (decide (a1 < 0))
   (some (Ans.mk (.int .i64 4) [] []))
   (brK (decide (a1≥52))
    (some (Ans.mk (.int .i64 4) [] []))
    (some (Ans.mk (.int .i64 0) [] []))))
theorem zsJ (a0:Nat) (a1:Int) (T0:Tb):denS Tryz.prog (zax []) zi8 [0] ID.disk_Disk_may [.h 8225 a0 0,.int .i64 a1] [T0]=zhE a0 a1 T0:=by kernel_rfl
theorem zoR (a0:Nat) (a1:Int) (T0:Tb):za5 [.h 8225 a0 0,.int .i64 a1] [T0]=zhE a0 a1 T0:=zsJ a0 a1 T0
def zi9:Ann:={ loops:=[],ks:=[(8225,false)] }
noncomputable def za6:Zs:=denS Tryz.prog (zax [(ID.disk_Disk_may,(.st [] [0] [(8225,false)] za5))]) zi9 [0,0] ID.disk_Disk_put
theorem znI:za2 Tryz.prog ID.disk_Disk_put (.st [] [0,0] [(8225,false)] za6):=zbg (zaA [zib]) zbn ⟨Tryz.f129,by kernel_rfl,by kernel_rfl,by kernel_rfl⟩
noncomputable def zic:Fact Tryz.prog:=⟨ID.disk_Disk_put,(.st [] [0,0] [(8225,false)] za6),znI⟩
noncomputable def zhF (za5:Zs) (a0:Nat) (a1:Int) (a2:List D) (T0:Tb):Option Ans:=
 zan (za5 [.h 8225 a0 0,.int .i64 a1] [T0]) fun r1=>
 nilK r1.outs <|
 nilK r1.tbs <|
 asI .i64 r1.r fun i2=>
 brK (i2 != 0)
  (some (Ans.mk (.tup [.agg [.int .i64 0,.int .u8 0,.int .u8 0,.int .u8 0,.int .u8 0,.int .u8 0,.int .u8 0,.int .u8 0,.int .u8 0,.int .u8 0,.int .u8 0,.int .u8 0,.int .u8 0,.int .u8 0,.int .u8 0,.int .u8 0,.int .u8 0,.int .u8 0,.int .u8 0,.int .u8 0,.int .u8 0,.int .u8 0,.int .u8 0,.int .u8 0,.int .u8 0,.int .u8 0,.int .u8 0,.int .u8 0,.int .u8 0,.int .u8 0,.int .u8 0,.int .u8 0,.int .u8 0],.int .i64 i2]) [] []))
  (brK ((↑(a2.length):Int) != 32)
   (some (Ans.mk (.tup [.agg [.int .i64 0,.int .u8 0,.int .u8 0,.int .u8 0,.int .u8 0,.int .u8 0,.int .u8 0,.int .u8 0,.int .u8 0,.int .u8 0,.int .u8 0,.int .u8 0,.int .u8 0,.int .u8 0,.int .u8 0,.int .u8 0,.int .u8 0,.int .u8 0,.int .u8 0,.int .u8 0,.int .u8 0,.int .u8 0,.int .u8 0,.int .u8 0,.int .u8 0,.int .u8 0,.int .u8 0,.int .u8 0,.int .u8 0,.int .u8 0,.int .u8 0,.int .u8 0,.int .u8 0],.int .i64 1]) [] []))
   (sif (cells a2=true) <|
   sif (a2.length=(32:Nat)) <|
   sif (33≤List.length ([D.int .i64 a1]++(a2++[]))) <|
   zaz ([Lf.int .i64,Lf.arr (32)]) (List.take (33:Nat) (List.drop (0:Nat) ([.int .i64 a1]++(a2++[])))) fun c3=>
   sif (List.length ([D.int .i64 c3.1]++(c3.2.1++[]))=(33:Nat)) <|
   sif (33≤List.length ([D.int .i64 c3.1]++(c3.2.1++[]))) <|
   zaz ([Lf.int .i64,Lf.arr (32)]) (List.take (33:Nat) (List.drop (0:Nat) ([.int .i64 c3.1]++(c3.2.1++[])))) fun c4=>
   sif (D.free (D.agg ([D.int .i64 c4.1]++(c4.2.1++[])))=true) <|
   some (Ans.mk (.tup [.agg ([.int .i64 c4.1]++(c4.2.1++[])),.int .i64 0]) [] [])))
theorem zsK (za5:Zs) (tga2:Tag) (a0:Nat) (a1:Int) (a2:List D) (T0:Tb):denS Tryz.prog (zax [(ID.disk_Disk_may,(.st [] [0] [(8225,false)] za5))]) zi9 [0,0] ID.disk_Disk_put [.h 8225 a0 0,.int .i64 a1,.sl tga2 a2] [T0]=zhF za5 a0 a1 (D.lentL a2) T0:=by kernel_rfl
theorem zoS (tga2:Tag) (a0:Nat) (a1:Int) (a2:List D) (T0:Tb):za6 [.h 8225 a0 0,.int .i64 a1,.sl tga2 a2] [T0]=zhF za5 a0 a1 (D.lentL a2) T0:=zsK za5 tga2 a0 a1 a2 T0
def zcU:Ann:={ loops:=[] }
noncomputable def zaf:Zp:=denE Tryz.prog (zax []) zcU [33] ID.slices_Clone_disk_write_disk_write
theorem zd5:za2 Tryz.prog ID.slices_Clone_disk_write_disk_write (.pure [33] zaf):=zuw (zaA []) zbn ⟨Tryz.f97,by kernel_rfl,by kernel_rfl,by kernel_rfl⟩
noncomputable def zcP:Fact Tryz.prog:=⟨ID.slices_Clone_disk_write_disk_write,(.pure [33] zaf),zd5⟩
noncomputable def zcs (a0:D) (b0:List D):Option D:=
 sif (List.length (a0::b0)≤4294967296) <|
 sif (zeC (33:Nat) (a0::b0)=true) <|
 sif (List.length (a0::b0)=List.length (a0::b0)) <|
 sif (List.all (a0::b0) D.free=true) <|
 some (.sl .own (a0::b0))
theorem zeT (tga0:Tag) (a0:D) (b0:List D):denE Tryz.prog (zax []) zcU [33] ID.slices_Clone_disk_write_disk_write [.sl tga0 (a0::b0)]=zcs (D.lent a0) (D.lentL b0):=by kernel_rfl
theorem zeg (tga0:Tag) (a0:D) (b0:List D):zaf [.sl tga0 (a0::b0)]=zcs (D.lent a0) (D.lentL b0):=zeT tga0 a0 b0
theorem zd6 (tg:Tag):zaf [.sl tg []]=some (.sl .own []):=(zqD (some (.sl .own [])))
def zfS:Ann:={ loops:=[],hints:=[(1,.at1 (.int .i64))] }
noncomputable def zaJ:Zp:=denP Tryz.prog (zax []) zfS [0] ID.disk_Disk_Damage_1
theorem zja:za2 Tryz.prog ID.disk_Disk_Damage_1 (.pure [0] zaJ):=zam (zaA []) zbn ⟨Tryz.f131,by kernel_rfl,by kernel_rfl,by kernel_rfl⟩
noncomputable def zfw:Fact Tryz.prog:=⟨ID.disk_Disk_Damage_1,(.pure [0] zaJ),zja⟩
noncomputable def zeJ (a0:List D) (c0:Int):Option D:=
 zaz ([Lf.int .i64,Lf.arr (32)]) a0 fun c1=>
 some (.bool (c1.1 == c0))
theorem zmG (a0:List D) (c0:Int):denP Tryz.prog (zax []) zfS [0] ID.disk_Disk_Damage_1 [.agg a0,.at_ (.int .i64 c0)]=zeJ (D.lentL a0) c0:=by kernel_rfl
theorem zjQ (a0:List D) (c0:Int):zaJ [.agg a0,.at_ (.int .i64 c0)]=zeJ (D.lentL a0) c0:=zmG a0 c0
def zcE:Ann:={ loops:=[(0,.val (.cell .lent)::.val (.fn1 (131:FuncId) (.int .i64))::dd 5 [.val (.cell (.int .i64)),.val (.cell (.int .i64))])] }
noncomputable def zat:Zp:=denP Tryz.prog (zax [(ID.disk_Disk_Damage_1,(.pure [0] zaJ))]) zcE [0] ID.slices_IndexFunc_disk_write_disk_write
theorem zdJ:za2 Tryz.prog ID.slices_IndexFunc_disk_write_disk_write (.pure [0] zat):=zam (zaA [zfw]) zbn ⟨Tryz.f152,by kernel_rfl,by kernel_rfl,by kernel_rfl⟩
noncomputable def zdR:Fact Tryz.prog:=⟨ID.slices_IndexFunc_disk_write_disk_write,(.pure [0] zat),zdJ⟩
noncomputable def zbT (zaJ:Zp) (a0:List D) (c0:Int):Option D:=
 zb3 (α:=(List D×Int×Int×Int×PUnit)×PUnit) (fun again1 ((l2,(i3,(i4,(i5,_)))),_)=>
  brK (decide (i5 < i4))
   (sif (0≤i5) <|
   getK l2 (i5.toNat) fun d6=>
   asAgg d6 fun cs7=>
   zaz ([Lf.int .i64,Lf.arr (32)]) cs7 fun c8=>
   sif (D.width (D.agg ([D.int .i64 c8.1]++(c8.2.1++[])))=(33:Nat)) <|
   zaz ([Lf.int .i64,Lf.arr (32)]) ([.int .i64 c8.1]++(c8.2.1++[])) fun c9=>
   sif (D.width (D.agg ([D.int .i64 c9.1]++(c9.2.1++[])))=(33:Nat)) <|
   zan (zaJ [.agg ([.int .i64 c9.1]++(c9.2.1++[])),D.at_ (.int .i64 i3)]) fun r10=>
   asB r10 fun b11=>
   brK b11
    (some (.int .i64 i5))
    (letN (IntKind.i64.wrap (i5+1)) fun n12=>
    again1 (((l2,i3,i4,n12,unit),unit))))
   (some (.int .i64 (-1))))
  (((a0,c0,(↑(a0.length):Int),(0:Int),unit),unit))
theorem zds (zaJ:Zp) (tga0:Tag) (a0:List D) (c0:Int):denP Tryz.prog (zax [(ID.disk_Disk_Damage_1,(.pure [0] zaJ))]) zcE [0] ID.slices_IndexFunc_disk_write_disk_write [.sl tga0 a0,.fn 131 [] [.at_ (.int .i64 c0)]]=zbT zaJ (D.lentL a0) c0:=by kernel_rfl
theorem zdb (tga0:Tag) (a0:List D) (c0:Int):zat [.sl tga0 a0,.fn 131 [] [.at_ (.int .i64 c0)]]=zbT zaJ (D.lentL a0) c0:=zds zaJ tga0 a0 c0
def zcB:Ann:={ loops:=[(1,.own 33::.val (.fn1 (131:FuncId) (.int .i64))::dd 3 [.val (.cell (.int .i64)),.val (.cell (.int .i64))])],pms:=[(.own,33)] }
noncomputable def zap:Zs:=denS Tryz.prog (zax [(ID.slices_IndexFunc_disk_write_disk_write,(.pure [0] zat)),(ID.disk_Disk_Damage_1,(.pure [0] zaJ))]) zcB [33] ID.slices_DeleteFunc_disk_write_disk_write
theorem zdF:za2 Tryz.prog ID.slices_DeleteFunc_disk_write_disk_write (.st [(.own,33)] [33] [] zap):=zbg (zaA [zdR,zfw]) zbn ⟨Tryz.f130,by kernel_rfl,by kernel_rfl,by kernel_rfl⟩
noncomputable def zdK:Fact Tryz.prog:=⟨ID.slices_DeleteFunc_disk_write_disk_write,(.st [(.own,33)] [33] [] zap),zdF⟩
noncomputable def zbM (zat zaJ:Zp) (a0:List D) (c0:Int):Option Ans:=
 sif (0+a0.length≤a0.length) <|
 zan (zat [.sl .lent (cut 0 a0.length a0),.fn (131:FuncId) [] [D.at_ (.int .i64 c0)]]) fun r1=>
 asI .i64 r1 fun i2=>
 brK (i2 == (-1:Int))
  (sif (a0.length=a0.length) <|
  sif (List.all a0 D.free=true) <|
  some (Ans.mk (.sl .own a0) [] []))
  (letN (IntKind.i64.wrap (i2+1)) fun n3=>
  none)
theorem zdj (zat zaJ:Zp) (a0:List D) (c0:Int):denS Tryz.prog (zax [(ID.slices_IndexFunc_disk_write_disk_write,(.pure [0] zat)),(ID.disk_Disk_Damage_1,(.pure [0] zaJ))]) zcB [33] ID.slices_DeleteFunc_disk_write_disk_write [.sl .own a0,.fn 131 [] [.at_ (.int .i64 c0)]] []=zbM zat zaJ a0 c0:=by kernel_rfl
theorem zc8 (a0:List D) (c0:Int):zap [.sl .own a0,.fn 131 [] [.at_ (.int .i64 c0)]] []=zbM zat zaJ a0 c0:=zdj zat zaJ a0 c0
def zgP:Ann:={ loops:=[],ks:=[(8225,true)] }
noncomputable def zbE:Zs:=denS Tryz.prog (zax [(ID.disk_Disk_put,(.st [] [0,0] [(8225,false)] za6)),(ID.slices_Clone_disk_write_disk_write,(.pure [33] zaf)),(ID.slices_DeleteFunc_disk_write_disk_write,(.st [(.own,33)] [33] [] zap))]) zgP [0] ID.disk_Disk_Damage
theorem zkA:za2 Tryz.prog ID.disk_Disk_Damage (.st [] [0] [(8225,true)] zbE):=zbg (zaA [zic,zcP,zdK]) zbn ⟨Tryz.f96,by kernel_rfl,by kernel_rfl,by kernel_rfl⟩
noncomputable def zlq:Fact Tryz.prog:=⟨ID.disk_Disk_Damage,(.st [] [0] [(8225,true)] zbE),zkA⟩
noncomputable def zfx (za6:Zs) (zaf:Zp) (zap:Zs) (a0:Nat) (a1:Int) (a2:List D) (T0:Tb):Option Ans:=
 zan (za6 [.h 8225 a0 0,.int .i64 a1,.sl .lent a2] [T0]) fun r1=>
 nilK r1.outs <|
 nilK r1.tbs <|
 zdP r1.r fun ts2=>
 zaz ([Lf.any,Lf.any]) ts2 fun c3=>
 asAgg c3.1 fun cs4=>
 zaz ([Lf.int .i64,Lf.arr (32)]) cs4 fun c5=>
 asI .i64 c3.2.1 fun i6=>
 sif (List.length ([D.int .i64 c5.1]++(c5.2.1++[]))=(33:Nat)) <|
 brK (i6 != 0)
  (some (Ans.mk (.int .i64 i6) [] [T0]))
  (sif (33≤List.length ([.int .i64 c5.1]++(c5.2.1++[]))) <|
  sif (List.length (List.take (32:Nat) (List.drop (1:Nat) ([D.int .i64 c5.1]++(c5.2.1++[]))))=(32:Nat)) <|
  sif (0≤a1) <|
  sif (a1.toNat < 52) <|
  getK T0 a0 fun d7=>
  sif (0+a1.toNat*32+32≤d7.length) <|
  sif (List.length (List.take (32:Nat) (List.drop (1:Nat) ([D.int .i64 c5.1]++(c5.2.1++[]))))=(32:Nat)) <|
  sif (zil (List.take (32:Nat) (List.drop (1:Nat) ([D.int .i64 c5.1]++(c5.2.1++[]))))=true) <|
  sif (zil (List.take (32:Nat) (List.drop (0+a1.toNat*32) d7))=true) <|
  letT (za8 T0 a0 (0+a1.toNat*32) (List.take (32:Nat) (List.drop (1:Nat) ([.int .i64 c5.1]++(c5.2.1++[]))))) fun U8=>
  getK U8 a0 fun d9=>
  getK d9 ((1664:Nat)) fun d10=>
  zbe d10 fun l11=>
  getK U8 a0 fun d12=>
  getK d12 ((1664:Nat)) fun d13=>
  zbe d13 fun l14=>
  sif (0+l11.length≤l14.length) <|
  zan (zaf [.sl .lent (cut 0 l11.length l14)]) fun r15=>
  zbe r15 fun l16=>
  sif (l16.length=l16.length) <|
  sif (zdC l16=true) <|
  zan (zap [.sl .own l16,.fn (131:Nat) [] [D.at_ (.int .i64 a1)]] []) fun r17=>
  nilK r17.outs <|
  nilK r17.tbs <|
  zbe r17.r fun l18=>
  sif (0+l18.length≤l18.length) <|
  getK U8 a0 fun d19=>
  sif (1665≤d19.length) <|
  sif (l18.length=l18.length) <|
  sif (zdC l18=true) <|
  sif (zgm (33:Nat) l18=true) <|
  letT (za8 U8 a0 (1664:Nat) [.sl .own l18]) fun U20=>
  some (Ans.mk (.int .i64 0) [] [U20]))
theorem zoT (za6:Zs) (zaf:Zp) (zap:Zs) (tga2:Tag) (a0:Nat) (a1:Int) (a2:List D) (T0:Tb):denS Tryz.prog (zax [(ID.disk_Disk_put,(.st [] [0,0] [(8225,false)] za6)),(ID.slices_Clone_disk_write_disk_write,(.pure [33] zaf)),(ID.slices_DeleteFunc_disk_write_disk_write,(.st [(.own,33)] [33] [] zap))]) zgP [0] ID.disk_Disk_Damage [.h 8225 a0 0,.int .i64 a1,.sl tga2 a2] [T0]=zfx za6 zaf zap a0 a1 (D.lentL a2) T0:=by kernel_rfl
theorem zlr (tga2:Tag) (a0:Nat) (a1:Int) (a2:List D) (T0:Tb):zbE [.h 8225 a0 0,.int .i64 a1,.sl tga2 a2] [T0]=zfx za6 zaf zap a0 a1 (D.lentL a2) T0:=zoT za6 zaf zap tga2 a0 a1 a2 T0
def zfT:Ann:={ loops:=[],ks:=[(2496,false),(8225,true)] }
noncomputable def zbk:Zs:=denS Tryz.prog (zax [(ID.bench_Bench_is,(.st [] [0] [(2496,false)] zas)),(ID.disk_Disk_Damage,(.st [] [0] [(8225,true)] zbE))]) zfT [0] ID.bench_Bench_Damage
theorem zjb:za2 Tryz.prog ID.bench_Bench_Damage (.st [] [0] [(2496,false),(8225,true)] zbk):=zbg (zaA [zdQ,zlq]) zbn ⟨Tryz.f50,by kernel_rfl,by kernel_rfl,by kernel_rfl⟩
noncomputable def zjR:Fact Tryz.prog:=⟨ID.bench_Bench_Damage,(.st [] [0] [(2496,false),(8225,true)] zbk),zjb⟩
noncomputable def zeK (zas zbE:Zs) (a0:Nat) (a1 a2:Int) (a3:List D) (T0 T1:Tb):Option Ans:=
 zan (zas [.h 2496 a0 0,.int .i64 a1] [T0]) fun r1=>
 nilK r1.outs <|
 nilK r1.tbs <|
 asB r1.r fun b2=>
 brK (!b2)
  (some (Ans.mk (.int .i64 1) [] [T1]))
  (getK T0 a0 fun d3=>
  getK d3 ((3:Nat)) fun d4=>
  zbe d4 fun l5=>
  getK T0 a0 fun d6=>
  getK d6 ((3:Nat)) fun d7=>
  zbe d7 fun l8=>
  sif (0≤a1) <|
  sif (a1.toNat < l5.length) <|
  getK T0 a0 fun d9=>
  getK d9 ((3:Nat)) fun d10=>
  zbe d10 fun l11=>
  getK l11 (0+a1.toNat) fun d12=>
  sif (D.isAgg d12=false) <|
  sif (D.width d12=(1:Nat)) <|
  sif (D.cell d12=true) <|
  zan (zbE [d12,.int .i64 a2,.sl .lent a3] [T1]) fun r13=>
  nilK r13.outs <|
  zeE r13.tbs fun c14 q15=>
  nilK q15 <|
  asI .i64 r13.r fun i16=>
  some (Ans.mk (.int .i64 i16) [] [c14]))
theorem zmH (zas zbE:Zs) (tga3:Tag) (a0:Nat) (a1 a2:Int) (a3:List D) (T0 T1:Tb):denS Tryz.prog (zax [(ID.bench_Bench_is,(.st [] [0] [(2496,false)] zas)),(ID.disk_Disk_Damage,(.st [] [0] [(8225,true)] zbE))]) zfT [0] ID.bench_Bench_Damage [.h 2496 a0 0,.int .i64 a1,.int .i64 a2,.sl tga3 a3] [T0,T1]=zeK zas zbE a0 a1 a2 (D.lentL a3) T0 T1:=by kernel_rfl
theorem zjS (tga3:Tag) (a0:Nat) (a1 a2:Int) (a3:List D) (T0 T1:Tb):zbk [.h 2496 a0 0,.int .i64 a1,.int .i64 a2,.sl tga3 a3] [T0,T1]=zeK zas zbE a0 a1 a2 (D.lentL a3) T0 T1:=zmH zas zbE tga3 a0 a1 a2 a3 T0 T1
def zfU:Ann:={ loops:=[(1,.dead::.val (.cell (.int .i64))::.val (.cell .lent)::.box true [(.int .i64),(.int .i64),(.int .i64)]::dd 3 [.ptr 2496,.dead,.val (.cell (.int .i64))]),(3,.dead::.val (.cell (.int .i64))::.val (.cell .lent)::.box true [(.int .i64),(.int .i64),(.int .i64)]::dd 3 [.ptr 2496,.dead,.val (.cell (.int .i64)),.own 1,.val (.cell .bool),.val (.cell (.int .i64))])],ks:=[(2496,true),(8225,true)] }
noncomputable def zbd:Zs:=denS Tryz.prog (zax [(ID.bench_New,(.st [] [0,0] [(2496,true),(8225,true)] zbH)),(ID.wattleref01_Width,(.pure [0] zab)),(ID.wattleplay_Sectors,(.pure [1] zaH)),(ID.wattleref01_Fill,(.pure [1,0] zaM)),(ID.bench_Bench_Damage,(.st [] [0] [(2496,false),(8225,true)] zbk))]) zfU [0] ID.wattlelaw14_Filled
theorem zjc:za2 Tryz.prog ID.wattlelaw14_Filled (.st [] [0] [(2496,true),(8225,true)] zbd):=zbg (zaA [zm2,zcb,zfr,zgt,zjR]) zbn ⟨Tryz.f10,by kernel_rfl,by kernel_rfl,by kernel_rfl⟩
noncomputable def zjT:Fact Tryz.prog:=⟨ID.wattlelaw14_Filled,(.st [] [0] [(2496,true),(8225,true)] zbd),zjc⟩
noncomputable def zeL (zbH:Zs) (zab zaH zaM:Zp) (zbk:Zs) (a0_0 a0_1 a0_2 a1:Int) (a2:List D) (T0 T1:Tb):Option Ans:=
 zan (zbH [.int .i64 a1] [T0,T1]) fun r1=>
 nilK r1.outs <|
 zeE r1.tbs fun c2 q3=>
 zeE q3 fun c4 q5=>
 nilK q5 <|
 zdP r1.r fun ts6=>
 zaz ([Lf.any,Lf.any]) ts6 fun c7=>
 sif (zhs c7.1=true) <|
 asI .i64 c7.2.1 fun i8=>
 brK (i8 != 0)
  (some (Ans.mk D.nilp [] [c2,c4]))
  (zpv c7.1 fun b9=>
  brK b9
   (some (Ans.mk D.nilp [] [c2,c4]))
   (zb3 (α:=(Int×List D×(Int×Int×Int×PUnit)×D×Int×PUnit)×List (List D)×List (List D)×PUnit) (fun again10 ((i11,(l12,((i13,(i14,(i15,_))),(x16,(i17,_))))),(U18,(U19,_)))=>
    brK (decide (i17 < 16))
     (letN (min i17 (↑(l12.length):Int)) fun n20=>
     sif (0≤n20) <|
     sif (n20≤(↑(l12.length):Int)) <|
     sif ((↑(l12.length):Int)≤(↑(l12.length):Int)) <|
     sif ((↑(l12.length):Int)=(↑(l12.length):Int)) <|
     sif (zyn (1:Nat) l12=true) <|
     zan (zab [.agg [.int .i64 i13,.int .i64 i14,.int .i64 i15]]) fun r21=>
     asI .i64 r21 fun i22=>
     zan (zaH [.sl (zer Tag.lent false (decide ((↑(l12.length):Int)=(↑(l12.length):Int)))) (cutI n20 (↑(l12.length):Int) l12),.int .i64 i22]) fun r23=>
     zbe r23 fun l24=>
     sif (0+l24.length≤l24.length) <|
     zan (zaM [.agg [.int .i64 i13,.int .i64 i14,.int .i64 i15],.int .i64 i17,.sl .lent (cut 0 l24.length l24)]) fun r25=>
     zdP r25 fun ts26=>
     zaz ([Lf.any,Lf.any]) ts26 fun c27=>
     zbe c27.1 fun l28=>
     asB c27.2.1 fun b29=>
     sif (l28.length=l28.length) <|
     zb3 (α:=(Int×List D×(Int×Int×Int×PUnit)×D×Int×List D×Bool×Int×PUnit)×List (List D)×List (List D)×PUnit) (fun again30 ((i31,(l32,((i33,(i34,(i35,_))),(x36,(i37,(l38,(b39,(i40,_)))))))),(U41,(U42,_)))=>
      brK b39
       (sif (0+l38.length≤l38.length) <|
       brK (decide (i40 < (↑(l38.length):Int)))
        (brK (decide (i40 < i31))
         (letN (IntKind.i64.wrap (36+i37)) fun n43=>
         sif (0≤i40) <|
         sif (i40.toNat < l38.length) <|
         getK l38 (0+i40.toNat) fun d44=>
         asSl d44 fun t45 l46=>
         zan (zbk [x36,.int .i64 i40,.int .i64 n43,.sl t45 l46] [U41,U42]) fun r47=>
         nilK r47.outs <|
         zeE r47.tbs fun c48 q49=>
         nilK q49 <|
         asI .i64 r47.r fun i50=>
         letN (IntKind.i64.wrap (i40+1)) fun n51=>
         sif (l38.length=l38.length) <|
         again30 (((i31,l32,(i33,i34,i35,unit),x36,i37,l38,b39,n51,unit),U41,c48,unit)))
         (letN (IntKind.i64.wrap (i37+1)) fun n52=>
         again10 (((i31,l32,(i33,i34,i35,unit),x36,n52,unit),U41,U42,unit))))
        (letN (IntKind.i64.wrap (i37+1)) fun n53=>
        again10 (((i31,l32,(i33,i34,i35,unit),x36,n53,unit),U41,U42,unit))))
       (letN (IntKind.i64.wrap (i37+1)) fun n54=>
       again10 (((i31,l32,(i33,i34,i35,unit),x36,n54,unit),U41,U42,unit))))
      (((i11,l12,(i13,i14,i15,unit),x16,i17,l28,b29,(0:Int),unit),U18,U19,unit)))
     (sif (D.free x16=true) <|
     some (Ans.mk x16 [] [U18,U19])))
    (((a1,a2,(a0_0,a0_1,a0_2,unit),c7.1,(0:Int),unit),c2,c4,unit))))
theorem zmI (zbH:Zs) (zab zaH zaM:Zp) (zbk:Zs) (tga2:Tag) (a0_0 a0_1 a0_2 a1:Int) (a2:List D) (T0 T1:Tb):denS Tryz.prog (zax [(ID.bench_New,(.st [] [0,0] [(2496,true),(8225,true)] zbH)),(ID.wattleref01_Width,(.pure [0] zab)),(ID.wattleplay_Sectors,(.pure [1] zaH)),(ID.wattleref01_Fill,(.pure [1,0] zaM)),(ID.bench_Bench_Damage,(.st [] [0] [(2496,false),(8225,true)] zbk))]) zfU [0] ID.wattlelaw14_Filled [.agg [.int .i64 a0_0,.int .i64 a0_1,.int .i64 a0_2],.int .i64 a1,.sl tga2 a2] [T0,T1]=zeL zbH zab zaH zaM zbk a0_0 a0_1 a0_2 a1 (D.lentL a2) T0 T1:=by kernel_rfl
theorem zjU (tga2:Tag) (a0_0 a0_1 a0_2 a1:Int) (a2:List D) (T0 T1:Tb):zbd [.agg [.int .i64 a0_0,.int .i64 a0_1,.int .i64 a0_2],.int .i64 a1,.sl tga2 a2] [T0,T1]=zeL zbH zab zaH zaM zbk a0_0 a0_1 a0_2 a1 (D.lentL a2) T0 T1:=zmI zbH zab zaH zaM zbk tga2 a0_0 a0_1 a0_2 a1 a2 T0 T1
def zhG:Ann:={ loops:=[(0,.val (.cell (.int .i64))::.val (.cell (.int .i64))::dd 3 (.own 1::dd 4 [.val (.cell (.int .i64)),.val (.cell (.int .i64))]))] }
noncomputable def zbP:Zp:=denP Tryz.prog (zax [(ID.wattlekeep_Within,(.pure [0] zac))]) zhG [1] ID.wattleplay_Live
theorem zls:za2 Tryz.prog ID.wattleplay_Live (.pure [1] zbP):=zam (zaA [zde]) zbn ⟨Tryz.f11,by kernel_rfl,by kernel_rfl,by kernel_rfl⟩
noncomputable def zmJ:Fact Tryz.prog:=⟨ID.wattleplay_Live,(.pure [1] zbP),zls⟩
noncomputable def zf5 (zac:Zp) (a0 a1:Int):Option D:=
 sif (0≤a1) <|
 sif (a1=a1) <|
 sif (a1*1≤140737488355328) <|
 sif (a1≤140737488355328) <|
 sif (0+a1.toNat≤List.length (List.replicate (a1.toNat) (D.bool false))) <|
 sif (a1.toNat=List.length (List.replicate (a1.toNat) (D.bool false))) <|
 zb3 (α:=(Int×Int×List D×Int×Int×PUnit)×PUnit) (fun again1 ((i2,(i3,(l4,(i5,(i6,_))))),_)=>
  brK (decide (i6 < i5))
   (sif (0≤i6) <|
   sif (i6.toNat < l4.length) <|
   getK l4 (0+i6.toNat) fun d7=>
   sif (D.isAgg d7=false) <|
   letN (IntKind.i64.wrap (i6+1)) fun n8=>
   sif (l4.length=List.length (List.set l4 (0+i6.toNat) (D.bool true))) <|
   again1 (((i2,i3,List.set l4 (0+i6.toNat) (.bool true),i5,n8,unit),unit)))
   (brK (decide (i3 > 0))
    (zan (zac [.int .i64 i2,.int .i64 3]) fun r9=>
    asI .i64 r9 fun i10=>
    brK (decide (i10 > 0))
     (letN (IntKind.i64.wrap (Int.tdiv i2 (3:Int))) fun n11=>
     zan (zac [.int .i64 n11,.int .i64 i3]) fun r12=>
     asI .i64 r12 fun i13=>
     sif (0≤i13) <|
     sif (i13.toNat < l4.length) <|
     getK l4 (0+i13.toNat) fun d14=>
     sif (D.isAgg d14=false) <|
     brK (decide (i3 > 0))
      (zan (zac [.int .i64 i2,.int .i64 9]) fun r15=>
      asI .i64 r15 fun i16=>
      brK (i16 == 8)
       (letN (IntKind.i64.wrap (Int.tdiv i2 (27:Int))) fun n17=>
       zan (zac [.int .i64 n17,.int .i64 i3]) fun r18=>
       asI .i64 r18 fun i19=>
       sif (0≤i19) <|
       sif (i19.toNat < l4.length) <|
       getK (List.set l4 (0+i13.toNat) (.bool false)) (0+i19.toNat) fun d20=>
       sif (D.isAgg d20=false) <|
       sif (l4.length=List.length (List.set (List.set l4 (0+i13.toNat) (D.bool false)) (0+i19.toNat) (D.bool false))) <|
       sif (List.all (List.set (List.set l4 (0+i13.toNat) (D.bool false)) (0+i19.toNat) (D.bool false)) D.free=true) <|
       some (.sl .own (List.set (List.set l4 (0+i13.toNat) (.bool false)) (0+i19.toNat) (.bool false))))
       (sif (l4.length=List.length (List.set l4 (0+i13.toNat) (.bool false))) <|
       sif (List.all (List.set l4 (0+i13.toNat) (D.bool false)) D.free=true) <|
       some (.sl .own (List.set l4 (0+i13.toNat) (.bool false)))))
      (sif (l4.length=List.length (List.set l4 (0+i13.toNat) (.bool false))) <|
      sif (List.all (List.set l4 (0+i13.toNat) (D.bool false)) D.free=true) <|
      some (.sl .own (List.set l4 (0+i13.toNat) (.bool false)))))
     (brK (decide (i3 > 0))
      (zan (zac [.int .i64 i2,.int .i64 9]) fun r21=>
      asI .i64 r21 fun i22=>
      brK (i22 == 8)
       (letN (IntKind.i64.wrap (Int.tdiv i2 (27:Int))) fun n23=>
       zan (zac [.int .i64 n23,.int .i64 i3]) fun r24=>
       asI .i64 r24 fun i25=>
       sif (0≤i25) <|
       sif (i25.toNat < l4.length) <|
       getK l4 (0+i25.toNat) fun d26=>
       sif (D.isAgg d26=false) <|
       sif (l4.length=List.length (List.set l4 (0+i25.toNat) (D.bool false))) <|
       sif (List.all (List.set l4 (0+i25.toNat) (D.bool false)) D.free=true) <|
       some (.sl .own (List.set l4 (0+i25.toNat) (.bool false))))
       (sif (l4.length=l4.length) <|
       sif (List.all l4 D.free=true) <|
       some (.sl .own l4)))
      (sif (l4.length=l4.length) <|
      sif (List.all l4 D.free=true) <|
      some (.sl .own l4))))
    (brK (decide (i3 > 0))
     (zan (zac [.int .i64 i2,.int .i64 9]) fun r27=>
     asI .i64 r27 fun i28=>
     brK (i28 == 8)
      (letN (IntKind.i64.wrap (Int.tdiv i2 (27:Int))) fun n29=>
      zan (zac [.int .i64 n29,.int .i64 i3]) fun r30=>
      asI .i64 r30 fun i31=>
      sif (0≤i31) <|
      sif (i31.toNat < l4.length) <|
      getK l4 (0+i31.toNat) fun d32=>
      sif (D.isAgg d32=false) <|
      sif (l4.length=List.length (List.set l4 (0+i31.toNat) (D.bool false))) <|
      sif (List.all (List.set l4 (0+i31.toNat) (D.bool false)) D.free=true) <|
      some (.sl .own (List.set l4 (0+i31.toNat) (.bool false))))
      (sif (l4.length=l4.length) <|
      sif (List.all l4 D.free=true) <|
      some (.sl .own l4)))
     (sif (l4.length=l4.length) <|
     sif (List.all l4 D.free=true) <|
     some (.sl .own l4)))))
  (((a0,a1,List.replicate (a1.toNat) (.bool false),(↑(a1.toNat):Int),(0:Int),unit),unit))
theorem zpP (zac:Zp) (a0 a1:Int):denP Tryz.prog (zax [(ID.wattlekeep_Within,(.pure [0] zac))]) zhG [1] ID.wattleplay_Live [.int .i64 a0,.int .i64 a1]=zf5 zac a0 a1:=by kernel_rfl
theorem zmK (a0 a1:Int):zbP [.int .i64 a0,.int .i64 a1]=zf5 zac a0 a1:=zpP zac a0 a1
def zgu:Ann:={ loops:=[(0,.val (.cell (.int .i64))::.val (.cell (.int .i64))::dd 3 [.val (.cell (.int .i64))])] }
noncomputable def zbt:Zp:=denP Tryz.prog (zax []) zgu [0] ID.wattleref01_least
theorem zjV:za2 Tryz.prog ID.wattleref01_least (.pure [0] zbt):=zam (zaA []) zbn ⟨Tryz.f123,by kernel_rfl,by kernel_rfl,by kernel_rfl⟩
noncomputable def zkB:Fact Tryz.prog:=⟨ID.wattleref01_least,(.pure [0] zbt),zjV⟩
noncomputable def ze5 (a0 a1:Int):Option D:=
 zb3 (α:=(Int×Int×Int×PUnit)×PUnit) (fun again1 ((i2,(i3,(i4,_))),_)=>
  sif (i3≠0) <|
  letN (Int.tmod i4 i3) fun n5=>
  brK (n5 != 0)
   (letN (IntKind.i64.wrap (i4+i2)) fun n6=>
   again1 (((i2,i3,n6,unit),unit)))
   (some (.int .i64 i4)))
  (((a0,a1,a0,unit),unit))
theorem znJ (a0 a1:Int):denP Tryz.prog (zax []) zgu [0] ID.wattleref01_least [.int .i64 a0,.int .i64 a1]=ze5 a0 a1:=by kernel_rfl
theorem zkC (a0 a1:Int):zbt [.int .i64 a0,.int .i64 a1]=ze5 a0 a1:=znJ a0 a1
def zgQ:Ann:={ loops:=[] }
noncomputable def zaQ:Zp:=denP Tryz.prog (zax [(ID.wattleref01_Can,(.pure [0] zay)),(ID.wattleref01_least,(.pure [0] zbt))]) zgQ [0] ID.wattleref01_Rows
theorem zkD:za2 Tryz.prog ID.wattleref01_Rows (.pure [0] zaQ):=zam (zaA [zeG,zkB]) zbn ⟨Tryz.f84,by kernel_rfl,by kernel_rfl,by kernel_rfl⟩
noncomputable def zgv:Fact Tryz.prog:=⟨ID.wattleref01_Rows,(.pure [0] zaQ),zkD⟩
noncomputable def zfy (zay zbt:Zp) (a0_0 a0_1 a0_2 a1_0 a1_1 a1_2:Int):Option D:=
 zan (zay [.agg [.int .i64 a0_0,.int .i64 a0_1,.int .i64 a0_2],.agg [.int .i64 a1_0,.int .i64 a1_1,.int .i64 a1_2]]) fun r1=>
 asB r1 fun b2=>
 brK (!b2)
  (some (.int .i64 0))
  (zan (zbt [.int .i64 a0_2,.int .i64 a1_2]) fun r3=>
  asI .i64 r3 fun i4=>
  some (.int .i64 i4))
theorem zoU (zay zbt:Zp) (a0_0 a0_1 a0_2 a1_0 a1_1 a1_2:Int):denP Tryz.prog (zax [(ID.wattleref01_Can,(.pure [0] zay)),(ID.wattleref01_least,(.pure [0] zbt))]) zgQ [0] ID.wattleref01_Rows [.agg [.int .i64 a0_0,.int .i64 a0_1,.int .i64 a0_2],.agg [.int .i64 a1_0,.int .i64 a1_1,.int .i64 a1_2]]=zfy zay zbt a0_0 a0_1 a0_2 a1_0 a1_1 a1_2:=by kernel_rfl
theorem zlt (a0_0 a0_1 a0_2 a1_0 a1_1 a1_2:Int):zaQ [.agg [.int .i64 a0_0,.int .i64 a0_1,.int .i64 a0_2],.agg [.int .i64 a1_0,.int .i64 a1_1,.int .i64 a1_2]]=zfy zay zbt a0_0 a0_1 a0_2 a1_0 a1_1 a1_2:=zoU zay zbt a0_0 a0_1 a0_2 a1_0 a1_1 a1_2
def zfz:Ann:={ loops:=[] }
noncomputable def zaD:Zp:=denP Tryz.prog (zax [(ID.wattleref01_Can,(.pure [0] zay)),(ID.wattleref01_Rows,(.pure [0] zaQ))]) zfz [0] ID.wattleref01_Windows
theorem zio:za2 Tryz.prog ID.wattleref01_Windows (.pure [0] zaD):=zam (zaA [zeG,zgv]) zbn ⟨Tryz.f39,by kernel_rfl,by kernel_rfl,by kernel_rfl⟩
noncomputable def zfe:Fact Tryz.prog:=⟨ID.wattleref01_Windows,(.pure [0] zaD),zio⟩
noncomputable def zeh (zay zaQ:Zp) (a0_0 a0_1 a0_2 a1_0 a1_1 a1_2:Int):Option D:=
 zan (zay [.agg [.int .i64 a0_0,.int .i64 a0_1,.int .i64 a0_2],.agg [.int .i64 a1_0,.int .i64 a1_1,.int .i64 a1_2]]) fun r1=>
 asB r1 fun b2=>
 brK (!b2)
  (some (.int .i64 0))
  (zan (zaQ [.agg [.int .i64 a0_0,.int .i64 a0_1,.int .i64 a0_2],.agg [.int .i64 a1_0,.int .i64 a1_1,.int .i64 a1_2]]) fun r3=>
  asI .i64 r3 fun i4=>
  sif (i4≠0) <|
  letN (IntKind.i64.wrap (Int.tdiv (16:Int) i4)) fun n5=>
  some (.int .i64 n5))
theorem zlu (zay zaQ:Zp) (a0_0 a0_1 a0_2 a1_0 a1_1 a1_2:Int):denP Tryz.prog (zax [(ID.wattleref01_Can,(.pure [0] zay)),(ID.wattleref01_Rows,(.pure [0] zaQ))]) zfz [0] ID.wattleref01_Windows [.agg [.int .i64 a0_0,.int .i64 a0_1,.int .i64 a0_2],.agg [.int .i64 a1_0,.int .i64 a1_1,.int .i64 a1_2]]=zeh zay zaQ a0_0 a0_1 a0_2 a1_0 a1_1 a1_2:=by kernel_rfl
theorem zjd (a0_0 a0_1 a0_2 a1_0 a1_1 a1_2:Int):zaD [.agg [.int .i64 a0_0,.int .i64 a0_1,.int .i64 a0_2],.agg [.int .i64 a1_0,.int .i64 a1_1,.int .i64 a1_2]]=zeh zay zaQ a0_0 a0_1 a0_2 a1_0 a1_1 a1_2:=zlu zay zaQ a0_0 a0_1 a0_2 a1_0 a1_1 a1_2
def zff:Ann:={ loops:=[(0,.val (.cell .lent)::.val (.cell (.int .i64))::dd 5 [.val (.cell (.int .i64)),.val (.cell (.int .i64))])] }
noncomputable def zbi:Zp:=denP Tryz.prog (zax []) zff [0] ID.slices_Index_int_int
theorem zhX:za2 Tryz.prog ID.slices_Index_int_int (.pure [0] zbi):=zam (zaA []) zbn ⟨Tryz.f66,by kernel_rfl,by kernel_rfl,by kernel_rfl⟩
noncomputable def ziq:Fact Tryz.prog:=⟨ID.slices_Index_int_int,(.pure [0] zbi),zhX⟩
noncomputable def zd2 (a0:List D) (a1:Int):Option D:=
 zb3 (α:=(List D×Int×Int×Int×PUnit)×PUnit) (fun again1 ((l2,(i3,(i4,(i5,_)))),_)=>
  brK (decide (i5 < i4))
   (sif (0≤i5) <|
   getK l2 (i5.toNat) fun d6=>
   asI .i64 d6 fun i7=>
   brK (i3 == i7)
    (some (.int .i64 i5))
    (letN (IntKind.i64.wrap (i5+1)) fun n8=>
    again1 (((l2,i3,i4,n8,unit),unit))))
   (some (.int .i64 (-1))))
  (((a0,a1,(↑(a0.length):Int),(0:Int),unit),unit))
theorem zkE (tga0:Tag) (a0:List D) (a1:Int):denP Tryz.prog (zax []) zff [0] ID.slices_Index_int_int [.sl tga0 a0,.int .i64 a1]=zd2 (D.lentL a0) a1:=by kernel_rfl
theorem zir (tga0:Tag) (a0:List D) (a1:Int):zbi [.sl tga0 a0,.int .i64 a1]=zd2 (D.lentL a0) a1:=zkE tga0 a0 a1
def zei:Ann:={ loops:=[] }
noncomputable def zaV:Zp:=denP Tryz.prog (zax [(ID.slices_Index_int_int,(.pure [0] zbi))]) zei [0] ID.slices_Contains_int_int
theorem zgE:za2 Tryz.prog ID.slices_Contains_int_int (.pure [0] zaV):=zam (zaA [ziq]) zbn ⟨Tryz.f122,by kernel_rfl,by kernel_rfl,by kernel_rfl⟩
noncomputable def zg5:Fact Tryz.prog:=⟨ID.slices_Contains_int_int,(.pure [0] zaV),zgE⟩
noncomputable def zdw (zbi:Zp) (a0:List D) (a1:Int):Option D:=
 zan (zbi [.sl .lent a0,.int .i64 a1]) fun r1=>
 asI .i64 r1 fun i2=>
 some (.bool (decide (i2≥0)))
theorem zis (zbi:Zp) (tga0:Tag) (a0:List D) (a1:Int):denP Tryz.prog (zax [(ID.slices_Index_int_int,(.pure [0] zbi))]) zei [0] ID.slices_Contains_int_int [.sl tga0 a0,.int .i64 a1]=zdw zbi (D.lentL a0) a1:=by kernel_rfl
theorem zg6 (tga0:Tag) (a0:List D) (a1:Int):zaV [.sl tga0 a0,.int .i64 a1]=zdw zbi (D.lentL a0) a1:=zis zbi tga0 a0 a1
def zm3:Ann:={ loops:=[] }
noncomputable def zao:Zp:=denP Tryz.prog (zax [(ID.slices_Contains_int_int,(.pure [0] zaV))]) zm3 [0] ID.geom_Check
theorem zqW:za2 Tryz.prog ID.geom_Check (.pure [0] zao):=zam (zaA [zg5]) zbn ⟨Tryz.f82,by kernel_rfl,by kernel_rfl,by kernel_rfl⟩
noncomputable def zdG:Fact Tryz.prog:=⟨ID.geom_Check,(.pure [0] zao),zqW⟩
noncomputable def zlv (zaV:Zp) (a0_0 a0_1 a0_2:Int):Option D:=
 asI .i64 (zk4 a0_0 (.int .i64 0) (setD (6:Int) (.int .i64 4) (setD (5:Int) (.int .i64 3) []))) fun i1=>
 brK (i1 == 0)
  (some (.int .i64 1))
  (brK (decide (a0_1 < i1))
   (some (.int .i64 1))
   (brK (decide (a0_1 > 8))
    (some (.int .i64 1))
    (zan (zaV [.sl .full [.int .i64 1,.int .i64 2,.int .i64 4],.int .i64 a0_2]) fun r2=>
    asB r2 fun b3=>
    brK (!b3)
     (some (.int .i64 1))
     (some (.int .i64 0)))))
theorem zxD (zaV:Zp) (a0_0 a0_1 a0_2:Int):denP Tryz.prog (zax [(ID.slices_Contains_int_int,(.pure [0] zaV))]) zm3 [0] ID.geom_Check [.agg [.int .i64 a0_0,.int .i64 a0_1,.int .i64 a0_2]]=zlv zaV a0_0 a0_1 a0_2:=by kernel_rfl
theorem zsL (a0_0 a0_1 a0_2:Int):zao [.agg [.int .i64 a0_0,.int .i64 a0_1,.int .i64 a0_2]]=zlv zaV a0_0 a0_1 a0_2:=zxD zaV a0_0 a0_1 a0_2
def zlw:Ann:={ loops:=[] }
noncomputable def zbq:Zp:=denP Tryz.prog (zax [(ID.geom_Check,(.pure [0] zao))]) zlw [0] ID.geom_Budget
theorem zpQ:za2 Tryz.prog ID.geom_Budget (.pure [0] zbq):=zam (zaA [zdG]) zbn ⟨Tryz.f132,by kernel_rfl,by kernel_rfl,by kernel_rfl⟩
noncomputable def zkf:Fact Tryz.prog:=⟨ID.geom_Budget,(.pure [0] zbq),zpQ⟩
noncomputable def zjW (zao:Zp) (a0_0 a0_1 a0_2:Int):Option D:=
 zan (zao [.agg [.int .i64 a0_0,.int .i64 a0_1,.int .i64 a0_2]]) fun r1=>
 asI .i64 r1 fun i2=>
 brK (i2 != 0)
  (some (.int .i64 0))
  (letN (IntKind.i64.wrap (a0_0 - 4)) fun n3=>
  some (.int .i64 n3))
theorem zvT (zao:Zp) (a0_0 a0_1 a0_2:Int):denP Tryz.prog (zax [(ID.geom_Check,(.pure [0] zao))]) zlw [0] ID.geom_Budget [.agg [.int .i64 a0_0,.int .i64 a0_1,.int .i64 a0_2]]=zjW zao a0_0 a0_1 a0_2:=by kernel_rfl
theorem zqX (a0_0 a0_1 a0_2:Int):zbq [.agg [.int .i64 a0_0,.int .i64 a0_1,.int .i64 a0_2]]=zjW zao a0_0 a0_1 a0_2:=zvT zao a0_0 a0_1 a0_2
def zm4:Ann:={ loops:=[] }
noncomputable def zae:Zp:=denP Tryz.prog (zax [(ID.geom_Check,(.pure [0] zao)),(ID.geom_Budget,(.pure [0] zbq))]) zm4 [0] ID.geom_Width
theorem zqY:za2 Tryz.prog ID.geom_Width (.pure [0] zae):=zam (zaA [zdG,zkf]) zbn ⟨Tryz.f101,by kernel_rfl,by kernel_rfl,by kernel_rfl⟩
noncomputable def zcC:Fact Tryz.prog:=⟨ID.geom_Width,(.pure [0] zae),zqY⟩
noncomputable def zlx (zao zbq:Zp) (a0_0 a0_1 a0_2:Int):Option D:=
 zan (zao [.agg [.int .i64 a0_0,.int .i64 a0_1,.int .i64 a0_2]]) fun r1=>
 asI .i64 r1 fun i2=>
 brK (i2 != 0)
  (some (.int .i64 0))
  (zan (zbq [.agg [.int .i64 a0_0,.int .i64 a0_1,.int .i64 a0_2]]) fun r3=>
  asI .i64 r3 fun i4=>
  letN (IntKind.i64.wrap (a0_1 - i4)) fun n5=>
  some (.int .i64 n5))
theorem zxE (zao zbq:Zp) (a0_0 a0_1 a0_2:Int):denP Tryz.prog (zax [(ID.geom_Check,(.pure [0] zao)),(ID.geom_Budget,(.pure [0] zbq))]) zm4 [0] ID.geom_Width [.agg [.int .i64 a0_0,.int .i64 a0_1,.int .i64 a0_2]]=zlx zao zbq a0_0 a0_1 a0_2:=by kernel_rfl
theorem zsM (a0_0 a0_1 a0_2:Int):zae [.agg [.int .i64 a0_0,.int .i64 a0_1,.int .i64 a0_2]]=zlx zao zbq a0_0 a0_1 a0_2:=zxE zao zbq a0_0 a0_1 a0_2
def zqH:Ann:={ loops:=[] }
noncomputable def zdl:Zp:=denP Tryz.prog (zax [(ID.geom_Check,(.pure [0] zao)),(ID.geom_Width,(.pure [0] zae))]) zqH [0] ID.geom_Can
theorem zty:za2 Tryz.prog ID.geom_Can (.pure [0] zdl):=zam (zaA [zdG,zcC]) zbn ⟨Tryz.f125,by kernel_rfl,by kernel_rfl,by kernel_rfl⟩
noncomputable def zvU:Fact Tryz.prog:=⟨ID.geom_Can,(.pure [0] zdl),zty⟩
noncomputable def zpR (zao zae:Zp) (a0_0 a0_1 a0_2 a1_0 a1_1 a1_2:Int):Option D:=
 zan (zao [.agg [.int .i64 a0_0,.int .i64 a0_1,.int .i64 a0_2]]) fun r1=>
 asI .i64 r1 fun i2=>
 brK (i2 == 0)
  (zan (zao [.agg [.int .i64 a1_0,.int .i64 a1_1,.int .i64 a1_2]]) fun r3=>
  asI .i64 r3 fun i4=>
  brK (i4 == 0)
   (brK (!(a0_0 == a1_0 && (a0_1 == a1_1 && (a0_2 == a1_2 && true))))
    (brK (decide (a1_1≥a0_1))
     (brK (decide (a1_0≥a0_0))
      (zan (zae [.agg [.int .i64 a1_0,.int .i64 a1_1,.int .i64 a1_2]]) fun r5=>
      asI .i64 r5 fun i6=>
      zan (zae [.agg [.int .i64 a0_0,.int .i64 a0_1,.int .i64 a0_2]]) fun r7=>
      asI .i64 r7 fun i8=>
      some (.bool (decide (i6≥i8))))
      (some (.bool false)))
     (some (.bool false)))
    (some (.bool false)))
   (some (.bool false)))
  (some (.bool false))
theorem zA6 (zao zae:Zp) (a0_0 a0_1 a0_2 a1_0 a1_1 a1_2:Int):denP Tryz.prog (zax [(ID.geom_Check,(.pure [0] zao)),(ID.geom_Width,(.pure [0] zae))]) zqH [0] ID.geom_Can [.agg [.int .i64 a0_0,.int .i64 a0_1,.int .i64 a0_2],.agg [.int .i64 a1_0,.int .i64 a1_1,.int .i64 a1_2]]=zpR zao zae a0_0 a0_1 a0_2 a1_0 a1_1 a1_2:=by kernel_rfl
theorem zvV (a0_0 a0_1 a0_2 a1_0 a1_1 a1_2:Int):zdl [.agg [.int .i64 a0_0,.int .i64 a0_1,.int .i64 a0_2],.agg [.int .i64 a1_0,.int .i64 a1_1,.int .i64 a1_2]]=zpR zao zae a0_0 a0_1 a0_2 a1_0 a1_1 a1_2:=zA6 zao zae a0_0 a0_1 a0_2 a1_0 a1_1 a1_2
def zoV:Ann:={ loops:=[] }
noncomputable def zbb:Zp:=denP Tryz.prog (zax [(ID.geom_Can,(.pure [0] zdl))]) zoV [0] ID.plan_Rows
theorem zsN:za2 Tryz.prog ID.plan_Rows (.pure [0] zbb):=zam (zaA [zvU]) zbn ⟨Tryz.f88,by kernel_rfl,by kernel_rfl,by kernel_rfl⟩
noncomputable def zit:Fact Tryz.prog:=⟨ID.plan_Rows,(.pure [0] zbb),zsN⟩
noncomputable def znK (zdl:Zp) (a0_0 a0_1 a0_2 a1_0 a1_1 a1_2:Int):Option D:=
 zan (zdl [.agg [.int .i64 a0_0,.int .i64 a0_1,.int .i64 a0_2],.agg [.int .i64 a1_0,.int .i64 a1_1,.int .i64 a1_2]]) fun r1=>
 asB r1 fun b2=>
 brK (!b2)
  (some (.int .i64 0))
  (letN (max a0_2 a1_2) fun n3=>
  some (.int .i64 n3))
theorem zyW (zdl:Zp) (a0_0 a0_1 a0_2 a1_0 a1_1 a1_2:Int):denP Tryz.prog (zax [(ID.geom_Can,(.pure [0] zdl))]) zoV [0] ID.plan_Rows [.agg [.int .i64 a0_0,.int .i64 a0_1,.int .i64 a0_2],.agg [.int .i64 a1_0,.int .i64 a1_1,.int .i64 a1_2]]=znK zdl a0_0 a0_1 a0_2 a1_0 a1_1 a1_2:=by kernel_rfl
theorem ztz (a0_0 a0_1 a0_2 a1_0 a1_1 a1_2:Int):zbb [.agg [.int .i64 a0_0,.int .i64 a0_1,.int .i64 a0_2],.agg [.int .i64 a1_0,.int .i64 a1_1,.int .i64 a1_2]]=znK zdl a0_0 a0_1 a0_2 a1_0 a1_1 a1_2:=zyW zdl a0_0 a0_1 a0_2 a1_0 a1_1 a1_2
def zkg:Ann:={ loops:=[] }
noncomputable def zba:Zp:=denP Tryz.prog (zax [(ID.plan_Rows,(.pure [0] zbb))]) zkg [0] ID.plan_Windows
theorem zoW:za2 Tryz.prog ID.plan_Windows (.pure [0] zba):=zam (zaA [zit]) zbn ⟨Tryz.f124,by kernel_rfl,by kernel_rfl,by kernel_rfl⟩
noncomputable def zje:Fact Tryz.prog:=⟨ID.plan_Windows,(.pure [0] zba),zoW⟩
noncomputable def ziu (zbb:Zp) (a0_0 a0_1 a0_2 a1_0 a1_1 a1_2:Int):Option D:=
 zan (zbb [.agg [.int .i64 a0_0,.int .i64 a0_1,.int .i64 a0_2],.agg [.int .i64 a1_0,.int .i64 a1_1,.int .i64 a1_2]]) fun r1=>
 asI .i64 r1 fun i2=>
 brK (i2 == 0)
  (some (.int .i64 0))
  (sif (i2≠0) <|
  letN (IntKind.i64.wrap (Int.tdiv (16:Int) i2)) fun n3=>
  some (.int .i64 n3))
theorem ztA (zbb:Zp) (a0_0 a0_1 a0_2 a1_0 a1_1 a1_2:Int):denP Tryz.prog (zax [(ID.plan_Rows,(.pure [0] zbb))]) zkg [0] ID.plan_Windows [.agg [.int .i64 a0_0,.int .i64 a0_1,.int .i64 a0_2],.agg [.int .i64 a1_0,.int .i64 a1_1,.int .i64 a1_2]]=ziu zbb a0_0 a0_1 a0_2 a1_0 a1_1 a1_2:=by kernel_rfl
theorem zpS (a0_0 a0_1 a0_2 a1_0 a1_1 a1_2:Int):zba [.agg [.int .i64 a0_0,.int .i64 a0_1,.int .i64 a0_2],.agg [.int .i64 a1_0,.int .i64 a1_1,.int .i64 a1_2]]=ziu zbb a0_0 a0_1 a0_2 a1_0 a1_1 a1_2:=ztA zbb a0_0 a0_1 a0_2 a1_0 a1_1 a1_2
def zm5:Ann:={ loops:=[] }
noncomputable def zbK:Zp:=denP Tryz.prog (zax [(ID.plan_Windows,(.pure [0] zba))]) zm5 [0] ID.window_may
theorem zqZ:za2 Tryz.prog ID.window_may (.pure [0] zbK):=zam (zaA [zje]) zbn ⟨Tryz.f85,by kernel_rfl,by kernel_rfl,by kernel_rfl⟩
noncomputable def zly:Fact Tryz.prog:=⟨ID.window_may,(.pure [0] zbK),zqZ⟩
noncomputable def zlz (zba:Zp) (a0_0 a0_1 a0_2 a1_0 a1_1 a1_2 a2:Int):Option D:=
 brK (decide (a2≥0))
  (zan (zba [.agg [.int .i64 a0_0,.int .i64 a0_1,.int .i64 a0_2],.agg [.int .i64 a1_0,.int .i64 a1_1,.int .i64 a1_2]]) fun r1=>
  asI .i64 r1 fun i2=>
  some (.bool (decide (a2 < i2))))
  (some (.bool false))
theorem zxF (zba:Zp) (a0_0 a0_1 a0_2 a1_0 a1_1 a1_2 a2:Int):denP Tryz.prog (zax [(ID.plan_Windows,(.pure [0] zba))]) zm5 [0] ID.window_may [.agg [.int .i64 a0_0,.int .i64 a0_1,.int .i64 a0_2],.agg [.int .i64 a1_0,.int .i64 a1_1,.int .i64 a1_2],.int .i64 a2]=zlz zba a0_0 a0_1 a0_2 a1_0 a1_1 a1_2 a2:=by kernel_rfl
theorem zsO (a0_0 a0_1 a0_2 a1_0 a1_1 a1_2 a2:Int):zbK [.agg [.int .i64 a0_0,.int .i64 a0_1,.int .i64 a0_2],.agg [.int .i64 a1_0,.int .i64 a1_1,.int .i64 a1_2],.int .i64 a2]=zlz zba a0_0 a0_1 a0_2 a1_0 a1_1 a1_2 a2:=zxF zba a0_0 a0_1 a0_2 a1_0 a1_1 a1_2 a2
def zoX:Ann:={ loops:=[] }
noncomputable def zbV:Zp:=denP Tryz.prog (zax [(ID.plan_Windows,(.pure [0] zba)),(ID.plan_Rows,(.pure [0] zbb)),(ID.geom_Width,(.pure [0] zae))]) zoX [0,0] ID.plan_Span
theorem zsP:za2 Tryz.prog ID.plan_Span (.pure [0,0] zbV):=zam (zaA [zje,zit,zcC]) zbn ⟨Tryz.f86,by kernel_rfl,by kernel_rfl,by kernel_rfl⟩
noncomputable def zm6:Fact Tryz.prog:=⟨ID.plan_Span,(.pure [0,0] zbV),zsP⟩
noncomputable def znL (zba zbb zae:Zp) (a0_0 a0_1 a0_2 a1_0 a1_1 a1_2 a2:Int):Option D:=
 brK (decide (a2 < 0))
  (some (.tup [.int .i64 0,.int .i64 0]))
  (zan (zba [.agg [.int .i64 a0_0,.int .i64 a0_1,.int .i64 a0_2],.agg [.int .i64 a1_0,.int .i64 a1_1,.int .i64 a1_2]]) fun r1=>
  asI .i64 r1 fun i2=>
  brK (decide (a2≥i2))
   (some (.tup [.int .i64 0,.int .i64 0]))
   (zan (zbb [.agg [.int .i64 a0_0,.int .i64 a0_1,.int .i64 a0_2],.agg [.int .i64 a1_0,.int .i64 a1_1,.int .i64 a1_2]]) fun r3=>
   asI .i64 r3 fun i4=>
   zan (zae [.agg [.int .i64 a1_0,.int .i64 a1_1,.int .i64 a1_2]]) fun r5=>
   asI .i64 r5 fun i6=>
   letN (IntKind.i64.wrap (i4*i6)) fun n7=>
   letN (IntKind.i64.wrap (a2*n7)) fun n8=>
   letN (IntKind.i64.wrap (a2+1)) fun n9=>
   letN (IntKind.i64.wrap (n9*n7)) fun n10=>
   some (.tup [.int .i64 n8,.int .i64 n10])))
theorem zyX (zba zbb zae:Zp) (a0_0 a0_1 a0_2 a1_0 a1_1 a1_2 a2:Int):denP Tryz.prog (zax [(ID.plan_Windows,(.pure [0] zba)),(ID.plan_Rows,(.pure [0] zbb)),(ID.geom_Width,(.pure [0] zae))]) zoX [0,0] ID.plan_Span [.agg [.int .i64 a0_0,.int .i64 a0_1,.int .i64 a0_2],.agg [.int .i64 a1_0,.int .i64 a1_1,.int .i64 a1_2],.int .i64 a2]=znL zba zbb zae a0_0 a0_1 a0_2 a1_0 a1_1 a1_2 a2:=by kernel_rfl
theorem ztB (a0_0 a0_1 a0_2 a1_0 a1_1 a1_2 a2:Int):zbV [.agg [.int .i64 a0_0,.int .i64 a0_1,.int .i64 a0_2],.agg [.int .i64 a1_0,.int .i64 a1_1,.int .i64 a1_2],.int .i64 a2]=znL zba zbb zae a0_0 a0_1 a0_2 a1_0 a1_1 a1_2 a2:=zyX zba zbb zae a0_0 a0_1 a0_2 a1_0 a1_1 a1_2 a2
def zjf:Ann:={ loops:=[] }
noncomputable def zaW:Zp:=denP Tryz.prog (zax [(ID.geom_Width,(.pure [0] zae))]) zjf [0] ID.geom_Capacity
theorem znM:za2 Tryz.prog ID.geom_Capacity (.pure [0] zaW):=zam (zaA [zcC]) zbn ⟨Tryz.f87,by kernel_rfl,by kernel_rfl,by kernel_rfl⟩
noncomputable def zid:Fact Tryz.prog:=⟨ID.geom_Capacity,(.pure [0] zaW),znM⟩
noncomputable def zhH (zae:Zp) (a0_0 a0_1 a0_2:Int):Option D:=
 zan (zae [.agg [.int .i64 a0_0,.int .i64 a0_1,.int .i64 a0_2]]) fun r1=>
 asI .i64 r1 fun i2=>
 letN (IntKind.i64.wrap (i2*16)) fun n3=>
 some (.int .i64 n3)
theorem zsQ (zae:Zp) (a0_0 a0_1 a0_2:Int):denP Tryz.prog (zax [(ID.geom_Width,(.pure [0] zae))]) zjf [0] ID.geom_Capacity [.agg [.int .i64 a0_0,.int .i64 a0_1,.int .i64 a0_2]]=zhH zae a0_0 a0_1 a0_2:=by kernel_rfl
theorem zoY (a0_0 a0_1 a0_2:Int):zaW [.agg [.int .i64 a0_0,.int .i64 a0_1,.int .i64 a0_2]]=zhH zae a0_0 a0_1 a0_2:=zsQ zae a0_0 a0_1 a0_2
def zqI:Ann:={ loops:=[] }
noncomputable def zbz:Zp:=denP Tryz.prog (zax [(ID.geom_Check,(.pure [0] zao))]) zqI [0] ID.place_in
theorem ztC:za2 Tryz.prog ID.place_in (.pure [0] zbz):=zam (zaA [zdG]) zbn ⟨Tryz.f111,by kernel_rfl,by kernel_rfl,by kernel_rfl⟩
noncomputable def zjX:Fact Tryz.prog:=⟨ID.place_in,(.pure [0] zbz),ztC⟩
noncomputable def zpT (zao:Zp) (a0_0 a0_1 a0_2 a1:Int):Option D:=
 zan (zao [.agg [.int .i64 a0_0,.int .i64 a0_1,.int .i64 a0_2]]) fun r1=>
 asI .i64 r1 fun i2=>
 brK (i2 == 0)
  (brK (decide (a1≥0))
   (some (.bool (decide (a1 < 16))))
   (some (.bool false)))
  (some (.bool false))
theorem zA7 (zao:Zp) (a0_0 a0_1 a0_2 a1:Int):denP Tryz.prog (zax [(ID.geom_Check,(.pure [0] zao))]) zqI [0] ID.place_in [.agg [.int .i64 a0_0,.int .i64 a0_1,.int .i64 a0_2],.int .i64 a1]=zpT zao a0_0 a0_1 a0_2 a1:=by kernel_rfl
theorem zvW (a0_0 a0_1 a0_2 a1:Int):zbz [.agg [.int .i64 a0_0,.int .i64 a0_1,.int .i64 a0_2],.int .i64 a1]=zpT zao a0_0 a0_1 a0_2 a1:=zA7 zao a0_0 a0_1 a0_2 a1
def zkh:Ann:={ loops:=[] }
noncomputable def zaN:Zp:=denP Tryz.prog (zax [(ID.place_in,(.pure [0] zbz))]) zkh [0,0] ID.place_Parity
theorem zoZ:za2 Tryz.prog ID.place_Parity (.pure [0,0] zaN):=zam (zaA [zjX]) zbn ⟨Tryz.f67,by kernel_rfl,by kernel_rfl,by kernel_rfl⟩
noncomputable def zf6:Fact Tryz.prog:=⟨ID.place_Parity,(.pure [0,0] zaN),zoZ⟩
noncomputable def ziv (zbz:Zp) (a0_0 a0_1 a0_2 a1:Int):Option D:=
 zan (zbz [.agg [.int .i64 a0_0,.int .i64 a0_1,.int .i64 a0_2],.int .i64 a1]) fun r1=>
 asB r1 fun b2=>
 brK (!b2)
  (some (.tup [.int .i64 (-1),.int .i64 (-1)]))
  (letN (IntKind.i64.wrap (a0_1 - 1)) fun n3=>
  sif (a0_2≠0) <|
  letN (IntKind.i64.wrap (Int.tdiv a1 a0_2)) fun n4=>
  sif (a0_1≠0) <|
  letN (Int.tmod n4 a0_1) fun n5=>
  letN (IntKind.i64.wrap (n3 - n5)) fun n6=>
  brK (a0_0 == 5)
   (some (.tup [.int .i64 n6,.int .i64 (-1)]))
   (letN (IntKind.i64.wrap (n6+1)) fun n7=>
   sif (a0_1≠0) <|
   letN (Int.tmod n7 a0_1) fun n8=>
   some (.tup [.int .i64 n6,.int .i64 n8])))
theorem ztD (zbz:Zp) (a0_0 a0_1 a0_2 a1:Int):denP Tryz.prog (zax [(ID.place_in,(.pure [0] zbz))]) zkh [0,0] ID.place_Parity [.agg [.int .i64 a0_0,.int .i64 a0_1,.int .i64 a0_2],.int .i64 a1]=ziv zbz a0_0 a0_1 a0_2 a1:=by kernel_rfl
theorem zpU (a0_0 a0_1 a0_2 a1:Int):zaN [.agg [.int .i64 a0_0,.int .i64 a0_1,.int .i64 a0_2],.int .i64 a1]=ziv zbz a0_0 a0_1 a0_2 a1:=ztD zbz a0_0 a0_1 a0_2 a1
def zm7:Ann:={ loops:=[] }
noncomputable def zaY:Zp:=denP Tryz.prog (zax [(ID.place_in,(.pure [0] zbz)),(ID.geom_Width,(.pure [0] zae)),(ID.place_Parity,(.pure [0,0] zaN)),(ID.geom_Budget,(.pure [0] zbq))]) zm7 [0] ID.place_Disk
theorem zq0:za2 Tryz.prog ID.place_Disk (.pure [0] zaY):=zam (zaA [zjX,zcC,zf6,zkf]) zbn ⟨Tryz.f102,by kernel_rfl,by kernel_rfl,by kernel_rfl⟩
noncomputable def zhI:Fact Tryz.prog:=⟨ID.place_Disk,(.pure [0] zaY),zq0⟩
noncomputable def zlA (zbz zae zaN zbq:Zp) (a0_0 a0_1 a0_2 a1 a2:Int):Option D:=
 zan (zbz [.agg [.int .i64 a0_0,.int .i64 a0_1,.int .i64 a0_2],.int .i64 a1]) fun r1=>
 asB r1 fun b2=>
 brK (!b2)
  (some (.int .i64 (-1)))
  (brK (decide (a2 < 0))
   (some (.int .i64 (-1)))
   (zan (zae [.agg [.int .i64 a0_0,.int .i64 a0_1,.int .i64 a0_2]]) fun r3=>
   asI .i64 r3 fun i4=>
   brK (decide (a2≥i4))
    (some (.int .i64 (-1)))
    (zan (zaN [.agg [.int .i64 a0_0,.int .i64 a0_1,.int .i64 a0_2],.int .i64 a1]) fun r5=>
    zdP r5 fun ts6=>
    zaz ([Lf.any,Lf.any]) ts6 fun c7=>
    asI .i64 c7.1 fun i8=>
    asI .i64 c7.2.1 fun i9=>
    zan (zbq [.agg [.int .i64 a0_0,.int .i64 a0_1,.int .i64 a0_2]]) fun r10=>
    asI .i64 r10 fun i11=>
    letN (IntKind.i64.wrap (i8+i11)) fun n12=>
    letN (IntKind.i64.wrap (n12+a2)) fun n13=>
    sif (a0_1≠0) <|
    letN (Int.tmod n13 a0_1) fun n14=>
    some (.int .i64 n14))))
theorem zxG (zbz zae zaN zbq:Zp) (a0_0 a0_1 a0_2 a1 a2:Int):denP Tryz.prog (zax [(ID.place_in,(.pure [0] zbz)),(ID.geom_Width,(.pure [0] zae)),(ID.place_Parity,(.pure [0,0] zaN)),(ID.geom_Budget,(.pure [0] zbq))]) zm7 [0] ID.place_Disk [.agg [.int .i64 a0_0,.int .i64 a0_1,.int .i64 a0_2],.int .i64 a1,.int .i64 a2]=zlA zbz zae zaN zbq a0_0 a0_1 a0_2 a1 a2:=by kernel_rfl
theorem zsR (a0_0 a0_1 a0_2 a1 a2:Int):zaY [.agg [.int .i64 a0_0,.int .i64 a0_1,.int .i64 a0_2],.int .i64 a1,.int .i64 a2]=zlA zbz zae zaN zbq a0_0 a0_1 a0_2 a1 a2:=zxG zbz zae zaN zbq a0_0 a0_1 a0_2 a1 a2
def zqJ:Ann:={ loops:=[] }
noncomputable def zc9:Zp:=denP Tryz.prog (zax [(ID.geom_Capacity,(.pure [0] zaW)),(ID.geom_Width,(.pure [0] zae)),(ID.place_Disk,(.pure [0] zaY))]) zqJ [0,0,0] ID.place_Of
theorem ztE:za2 Tryz.prog ID.place_Of (.pure [0,0,0] zc9):=zam (zaA [zid,zcC,zhI]) zbn ⟨Tryz.f63,by kernel_rfl,by kernel_rfl,by kernel_rfl⟩
noncomputable def zvX:Fact Tryz.prog:=⟨ID.place_Of,(.pure [0,0,0] zc9),ztE⟩
noncomputable def zpV (zaW zae zaY:Zp) (a0_0 a0_1 a0_2 a1:Int):Option D:=
 brK (decide (a1 < 0))
  (some (.tup [.int .i64 0,.int .i64 0,.bool false]))
  (zan (zaW [.agg [.int .i64 a0_0,.int .i64 a0_1,.int .i64 a0_2]]) fun r1=>
  asI .i64 r1 fun i2=>
  brK (decide (a1≥i2))
   (some (.tup [.int .i64 0,.int .i64 0,.bool false]))
   (sif (a0_2≠0) <|
   letN (IntKind.i64.wrap (Int.tdiv a1 a0_2)) fun n3=>
   zan (zae [.agg [.int .i64 a0_0,.int .i64 a0_1,.int .i64 a0_2]]) fun r4=>
   asI .i64 r4 fun i5=>
   sif (i5≠0) <|
   letN (IntKind.i64.wrap (Int.tdiv n3 i5)) fun n6=>
   letN (IntKind.i64.wrap (n6*a0_2)) fun n7=>
   sif (a0_2≠0) <|
   letN (Int.tmod a1 a0_2) fun n8=>
   letN (IntKind.i64.wrap (n7+n8)) fun n9=>
   zan (zae [.agg [.int .i64 a0_0,.int .i64 a0_1,.int .i64 a0_2]]) fun r10=>
   asI .i64 r10 fun i11=>
   sif (i11≠0) <|
   letN (Int.tmod n3 i11) fun n12=>
   zan (zaY [.agg [.int .i64 a0_0,.int .i64 a0_1,.int .i64 a0_2],.int .i64 n9,.int .i64 n12]) fun r13=>
   asI .i64 r13 fun i14=>
   some (.tup [.int .i64 i14,.int .i64 n9,.bool true])))
theorem zA8 (zaW zae zaY:Zp) (a0_0 a0_1 a0_2 a1:Int):denP Tryz.prog (zax [(ID.geom_Capacity,(.pure [0] zaW)),(ID.geom_Width,(.pure [0] zae)),(ID.place_Disk,(.pure [0] zaY))]) zqJ [0,0,0] ID.place_Of [.agg [.int .i64 a0_0,.int .i64 a0_1,.int .i64 a0_2],.int .i64 a1]=zpV zaW zae zaY a0_0 a0_1 a0_2 a1:=by kernel_rfl
theorem zvY (a0_0 a0_1 a0_2 a1:Int):zc9 [.agg [.int .i64 a0_0,.int .i64 a0_1,.int .i64 a0_2],.int .i64 a1]=zpV zaW zae zaY a0_0 a0_1 a0_2 a1:=zA8 zaW zae zaY a0_0 a0_1 a0_2 a1
def zhJ:Ann:={ loops:=[],ks:=[(2496,false)] }
noncomputable def zaU:Zs:=denS Tryz.prog (zax []) zhJ [0] ID.bench_Bench_Len
theorem zlB:za2 Tryz.prog ID.bench_Bench_Len (.st [] [0] [(2496,false)] zaU):=zbg (zaA []) zbn ⟨Tryz.f70,by kernel_rfl,by kernel_rfl,by kernel_rfl⟩
noncomputable def zgR:Fact Tryz.prog:=⟨ID.bench_Bench_Len,(.st [] [0] [(2496,false)] zaU),zlB⟩
noncomputable def zf7 (a0:Nat) (T0:Tb):Option Ans:=
 getK T0 a0 fun d1=>
 getK d1 ((3:Nat)) fun d2=>
 zbe d2 fun l3=>
 getK T0 a0 fun d4=>
 getK d4 ((3:Nat)) fun d5=>
 zbe d5 fun l6=>
 sif (0+l3.length≤l6.length) <|
 some (Ans.mk (.int .i64 (↑(l3.length):Int)) [] [])
theorem zpW (a0:Nat) (T0:Tb):denS Tryz.prog (zax []) zhJ [0] ID.bench_Bench_Len [.h 2496 a0 0] [T0]=zf7 a0 T0:=by kernel_rfl
theorem zmL (a0:Nat) (T0:Tb):zaU [.h 2496 a0 0] [T0]=zf7 a0 T0:=zpW a0 T0
def zgS:Ann:={ loops:=[],ks:=[(8225,false)] }
noncomputable def zbF:Zs:=denS Tryz.prog (zax []) zgS [0] ID.disk_Disk_Failed
theorem zkF:za2 Tryz.prog ID.disk_Disk_Failed (.st [] [0] [(8225,false)] zbF):=zbg (zaA []) zbn ⟨Tryz.f144,by kernel_rfl,by kernel_rfl,by kernel_rfl⟩
noncomputable def zlC:Fact Tryz.prog:=⟨ID.disk_Disk_Failed,(.st [] [0] [(8225,false)] zbF),zkF⟩
noncomputable def zfA (a0:Nat) (T0:Tb):Option Ans:=
 getK T0 a0 fun d1=>
 getK d1 ((1665:Nat)) fun d2=>
 asB d2 fun b3=>
 some (Ans.mk (.bool b3) [] [])
theorem zo0 (a0:Nat) (T0:Tb):denS Tryz.prog (zax []) zgS [0] ID.disk_Disk_Failed [.h 8225 a0 0] [T0]=zfA a0 T0:=by kernel_rfl
theorem zlD (a0:Nat) (T0:Tb):zbF [.h 8225 a0 0] [T0]=zfA a0 T0:=zo0 a0 T0
def zfV:Ann:={ loops:=[],ks:=[(2496,false),(8225,false)] }
noncomputable def zbl:Zs:=denS Tryz.prog (zax [(ID.bench_Bench_is,(.st [] [0] [(2496,false)] zas)),(ID.disk_Disk_Failed,(.st [] [0] [(8225,false)] zbF))]) zfV [0] ID.bench_Bench_Failed
theorem zjg:za2 Tryz.prog ID.bench_Bench_Failed (.st [] [0] [(2496,false),(8225,false)] zbl):=zbg (zaA [zdQ,zlC]) zbn ⟨Tryz.f110,by kernel_rfl,by kernel_rfl,by kernel_rfl⟩
noncomputable def zjY:Fact Tryz.prog:=⟨ID.bench_Bench_Failed,(.st [] [0] [(2496,false),(8225,false)] zbl),zjg⟩
noncomputable def zeM (zas zbF:Zs) (a0:Nat) (a1:Int) (T0 T1:Tb):Option Ans:=
 zan (zas [.h 2496 a0 0,.int .i64 a1] [T0]) fun r1=>
 nilK r1.outs <|
 nilK r1.tbs <|
 asB r1.r fun b2=>
 brK b2
  (getK T0 a0 fun d3=>
  getK d3 ((3:Nat)) fun d4=>
  zbe d4 fun l5=>
  getK T0 a0 fun d6=>
  getK d6 ((3:Nat)) fun d7=>
  zbe d7 fun l8=>
  sif (0≤a1) <|
  sif (a1.toNat < l5.length) <|
  getK T0 a0 fun d9=>
  getK d9 ((3:Nat)) fun d10=>
  zbe d10 fun l11=>
  getK l11 (0+a1.toNat) fun d12=>
  sif (D.isAgg d12=false) <|
  sif (D.width d12=(1:Nat)) <|
  sif (D.cell d12=true) <|
  zan (zbF [d12] [T1]) fun r13=>
  nilK r13.outs <|
  nilK r13.tbs <|
  asB r13.r fun b14=>
  some (Ans.mk (.bool b14) [] []))
  (some (Ans.mk (.bool false) [] []))
theorem zmM (zas zbF:Zs) (a0:Nat) (a1:Int) (T0 T1:Tb):denS Tryz.prog (zax [(ID.bench_Bench_is,(.st [] [0] [(2496,false)] zas)),(ID.disk_Disk_Failed,(.st [] [0] [(8225,false)] zbF))]) zfV [0] ID.bench_Bench_Failed [.h 2496 a0 0,.int .i64 a1] [T0,T1]=zeM zas zbF a0 a1 T0 T1:=by kernel_rfl
theorem zjZ (a0:Nat) (a1:Int) (T0 T1:Tb):zbl [.h 2496 a0 0,.int .i64 a1] [T0,T1]=zeM zas zbF a0 a1 T0 T1:=zmM zas zbF a0 a1 T0 T1
def zo1:Ann:={ loops:=[],ks:=[(2496,false),(8225,false)] }
noncomputable def zaT:Zs:=denS Tryz.prog (zax [(ID.bench_Bench_Len,(.st [] [0] [(2496,false)] zaU)),(ID.bench_Bench_Failed,(.st [] [0] [(2496,false),(8225,false)] zbl))]) zo1 [0] ID.stripe_up
theorem zsS:za2 Tryz.prog ID.stripe_up (.st [] [0] [(2496,false),(8225,false)] zaT):=zbg (zaA [zgR,zjY]) zbn ⟨Tryz.f64,by kernel_rfl,by kernel_rfl,by kernel_rfl⟩
noncomputable def zgh:Fact Tryz.prog:=⟨ID.stripe_up,(.st [] [0] [(2496,false),(8225,false)] zaT),zsS⟩
noncomputable def znN (zaU zbl:Zs) (a0:Nat) (a1:List D) (a2:Int) (T0 T1:Tb):Option Ans:=
 zan (zaU [.h 2496 a0 0] [T0]) fun r1=>
 nilK r1.outs <|
 nilK r1.tbs <|
 asI .i64 r1.r fun i2=>
 brK (decide (a2 < i2))
  (brK (decide (a2 < (↑(a1.length):Int)))
   (sif (0≤a2) <|
   getK a1 (a2.toNat) fun d3=>
   asB d3 fun b4=>
   brK b4
    (zan (zbl [.h 2496 a0 0,.int .i64 a2] [T0,T1]) fun r5=>
    nilK r5.outs <|
    nilK r5.tbs <|
    asB r5.r fun b6=>
    some (Ans.mk (.bool !b6) [] []))
    (some (Ans.mk (.bool false) [] [])))
   (some (Ans.mk (.bool false) [] [])))
  (some (Ans.mk (.bool false) [] []))
theorem zyY (zaU zbl:Zs) (tga1:Tag) (a0:Nat) (a1:List D) (a2:Int) (T0 T1:Tb):denS Tryz.prog (zax [(ID.bench_Bench_Len,(.st [] [0] [(2496,false)] zaU)),(ID.bench_Bench_Failed,(.st [] [0] [(2496,false),(8225,false)] zbl))]) zo1 [0] ID.stripe_up [.h 2496 a0 0,.sl tga1 a1,.int .i64 a2] [T0,T1]=znN zaU zbl a0 (D.lentL a1) a2 T0 T1:=by kernel_rfl
theorem ztF (tga1:Tag) (a0:Nat) (a1:List D) (a2:Int) (T0 T1:Tb):zaT [.h 2496 a0 0,.sl tga1 a1,.int .i64 a2] [T0,T1]=znN zaU zbl a0 (D.lentL a1) a2 T0 T1:=zyY zaU zbl tga1 a0 a1 a2 T0 T1
def zhK:Ann:={ loops:=[],ks:=[(2496,false)] }
noncomputable def zaB:Zs:=denS Tryz.prog (zax [(ID.bench_Bench_is,(.st [] [0] [(2496,false)] zas))]) zhK [0] ID.bench_Bench_may
theorem zlE:za2 Tryz.prog ID.bench_Bench_may (.st [] [0] [(2496,false)] zaB):=zbg (zaA [zdQ]) zbn ⟨Tryz.f53,by kernel_rfl,by kernel_rfl,by kernel_rfl⟩
noncomputable def zeN:Fact Tryz.prog:=⟨ID.bench_Bench_may,(.st [] [0] [(2496,false)] zaB),zlE⟩
noncomputable def zf8 (zas:Zs) (a0:Nat) (a1:Int) (T0:Tb):Option Ans:=
 zan (zas [.h 2496 a0 0,.int .i64 a1] [T0]) fun r1=>
 nilK r1.outs <|
 nilK r1.tbs <|
 asB r1.r fun b2=>
 brK (!b2)
  (some (Ans.mk (.int .i64 1) [] []))
  (getK T0 a0 fun d3=>
  getK d3 ((2:Nat)) fun d4=>
  asB d4 fun b5=>
  brK b5
   (some (Ans.mk (.int .i64 6) [] []))
   (some (Ans.mk (.int .i64 0) [] [])))
theorem zpX (zas:Zs) (a0:Nat) (a1:Int) (T0:Tb):denS Tryz.prog (zax [(ID.bench_Bench_is,(.st [] [0] [(2496,false)] zas))]) zhK [0] ID.bench_Bench_may [.h 2496 a0 0,.int .i64 a1] [T0]=zf8 zas a0 a1 T0:=by kernel_rfl
theorem zmN (a0:Nat) (a1:Int) (T0:Tb):zaB [.h 2496 a0 0,.int .i64 a1] [T0]=zf8 zas a0 a1 T0:=zpX zas a0 a1 T0
def zeB:Ann:={ loops:=[] }
noncomputable def zar:Zp:=denE Tryz.prog (zax []) zeB [1] ID.slices_Clone_byte_byte
theorem zg7:za2 Tryz.prog ID.slices_Clone_byte_byte (.pure [1] zar):=zuw (zaA []) zbn ⟨Tryz.f99,by kernel_rfl,by kernel_rfl,by kernel_rfl⟩
noncomputable def zej:Fact Tryz.prog:=⟨ID.slices_Clone_byte_byte,(.pure [1] zar),zg7⟩
noncomputable def zdH (a0:D) (b0:List D):Option D:=
 sif (List.length (a0::b0)≤4294967296) <|
 sif (zeC (1:Nat) (a0::b0)=true) <|
 sif (List.length (a0::b0)=List.length (a0::b0)) <|
 sif (List.all (a0::b0) D.free=true) <|
 some (.sl .own (a0::b0))
theorem zjh (tga0:Tag) (a0:D) (b0:List D):denE Tryz.prog (zax []) zeB [1] ID.slices_Clone_byte_byte [.sl tga0 (a0::b0)]=zdH (D.lent a0) (D.lentL b0):=by kernel_rfl
theorem zhL (tga0:Tag) (a0:D) (b0:List D):zar [.sl tga0 (a0::b0)]=zdH (D.lent a0) (D.lentL b0):=zjh tga0 a0 b0
theorem zg8 (tg:Tag):zar [.sl tg []]=some (.sl .own []):=(zqD (some (.sl .own [])))
def zie:Ann:={ loops:=[(1,.dead::.val (.cell (.int .i64))::dd 5 (.box true [(.arr 32)]::dd 17 [.view 8225 1664,.val (.cell (.int .i64)),.val (.cell (.int .i64))]))],ks:=[(8225,false)] }
noncomputable def zbX:Zs:=denS Tryz.prog (zax [(ID.disk_Disk_may,(.st [] [0] [(8225,false)] za5)),(ID.slices_Clone_byte_byte,(.pure [1] zar))]) zie [1,0] ID.disk_Disk_Read
theorem zmO:za2 Tryz.prog ID.disk_Disk_Read (.st [] [1,0] [(8225,false)] zbX):=zbg (zaA [zib,zej]) zbn ⟨Tryz.f54,by kernel_rfl,by kernel_rfl,by kernel_rfl⟩
noncomputable def znO:Fact Tryz.prog:=⟨ID.disk_Disk_Read,(.st [] [1,0] [(8225,false)] zbX),zmO⟩
noncomputable def zgF (za5:Zs) (zar:Zp) (a0:Nat) (a1:Int) (T0:Tb):Option Ans:=
 zan (za5 [.h 8225 a0 0,.int .i64 a1] [T0]) fun r1=>
 nilK r1.outs <|
 nilK r1.tbs <|
 asI .i64 r1.r fun i2=>
 brK (i2 != 0)
  (some (Ans.mk (.tup [.sl .own [],.int .i64 i2]) [] []))
  (sif (0≤a1) <|
  sif (a1.toNat < 52) <|
  getK T0 a0 fun d3=>
  sif (0+a1.toNat*32+32≤d3.length) <|
  sif (zil (List.take (32:Nat) (List.drop (0+a1.toNat*32) d3))=true) <|
  sif (List.length (List.take (32:Nat) (List.drop (0+a1.toNat*32) d3))=(32:Nat)) <|
  sif (List.length (List.take (32:Nat) (List.drop (0+a1.toNat*32) d3))=(32:Nat)) <|
  getK T0 a0 fun d4=>
  getK d4 ((1664:Nat)) fun d5=>
  zbe d5 fun l6=>
  getK T0 a0 fun d7=>
  getK d7 ((1664:Nat)) fun d8=>
  zbe d8 fun l9=>
  sif (0+l6.length≤l9.length) <|
  zaz ([Lf.arr (32)]) (List.take (32:Nat) (List.drop (0+a1.toNat*32) d3)) fun c10=>
  zb3 (α:=(Int×(List D×PUnit)×(Nat×Nat×Nat)×Int×Int×PUnit)×List (List D)×PUnit) (fun again11 ((i12,((l13,_),((x14,(x15,x16)),(i17,(i18,_))))),(U19,_))=>
   brK (decide (i18 < i17))
    (getK U19 x14 fun d20=>
    getK d20 ((1664:Nat)) fun d21=>
    zbe d21 fun l22=>
    sif (0≤i18) <|
    sif (i18.toNat < x16) <|
    getK U19 x14 fun d23=>
    getK d23 ((1664:Nat)) fun d24=>
    zbe d24 fun l25=>
    getK l25 (x15+i18.toNat) fun d26=>
    asAgg d26 fun cs27=>
    zaz ([Lf.int .i64,Lf.arr (32)]) cs27 fun c28=>
    sif (D.width (D.agg ([D.int .i64 c28.1]++(c28.2.1++[])))=(33:Nat)) <|
    sif (List.length ([D.int .i64 c28.1]++(c28.2.1++[]))=(33:Nat)) <|
    brK (c28.1 == i12)
     (sif (33≤List.length ([.int .i64 c28.1]++(c28.2.1++[]))) <|
     sif (List.length (List.take (32:Nat) (List.drop (1:Nat) ([D.int .i64 c28.1]++(c28.2.1++[]))))=(32:Nat)) <|
     sif (List.length (List.take (32:Nat) (List.drop (1:Nat) ([D.int .i64 c28.1]++(c28.2.1++[]))))=(32:Nat)) <|
     sif (32≤List.length (l13++[])) <|
     letN (IntKind.i64.wrap (i18+1)) fun n29=>
     zaz ([Lf.arr (32)]) (spl (0:Nat) (32:Nat) (l13++[]) (List.take (32:Nat) (List.drop (1:Nat) ([.int .i64 c28.1]++(c28.2.1++[]))))) fun c30=>
     again11 (((i12,c30,(x14,x15,x16),i17,n29,unit),U19,unit)))
     (letN (IntKind.i64.wrap (i18+1)) fun n31=>
     zaz ([Lf.arr (32)]) (l13++[]) fun c32=>
     again11 (((i12,c32,(x14,x15,x16),i17,n31,unit),U19,unit))))
    (sif (32≤List.length (l13++[])) <|
    sif (32≤List.length (l13++[])) <|
    zan (zar [.sl .lent (cut (0:Nat) (32:Nat) (l13++[]))]) fun r33=>
    zbe r33 fun l34=>
    sif (l34.length=l34.length) <|
    sif (List.all l34 D.free=true) <|
    some (Ans.mk (.tup [.sl .own l34,.int .i64 0]) [] [])))
   (((a1,c10,(a0,(0:Nat),l6.length),(↑(l6.length):Int),(0:Int),unit),T0,unit)))
theorem zq1 (za5:Zs) (zar:Zp) (a0:Nat) (a1:Int) (T0:Tb):denS Tryz.prog (zax [(ID.disk_Disk_may,(.st [] [0] [(8225,false)] za5)),(ID.slices_Clone_byte_byte,(.pure [1] zar))]) zie [1,0] ID.disk_Disk_Read [.h 8225 a0 0,.int .i64 a1] [T0]=zgF za5 zar a0 a1 T0:=by kernel_rfl
theorem znP (a0:Nat) (a1:Int) (T0:Tb):zbX [.h 8225 a0 0,.int .i64 a1] [T0]=zgF za5 zar a0 a1 T0:=zq1 za5 zar a0 a1 T0
def zgT:Ann:={ loops:=[],ks:=[(2496,false),(8225,false)] }
noncomputable def zaw:Zs:=denS Tryz.prog (zax [(ID.bench_Bench_may,(.st [] [0] [(2496,false)] zaB)),(ID.disk_Disk_Read,(.st [] [1,0] [(8225,false)] zbX))]) zgT [1,0] ID.bench_Bench_Read
theorem zkG:za2 Tryz.prog ID.bench_Bench_Read (.st [] [1,0] [(2496,false),(8225,false)] zaw):=zbg (zaA [zeN,znO]) zbn ⟨Tryz.f21,by kernel_rfl,by kernel_rfl,by kernel_rfl⟩
noncomputable def zek:Fact Tryz.prog:=⟨ID.bench_Bench_Read,(.st [] [1,0] [(2496,false),(8225,false)] zaw),zkG⟩
noncomputable def zfB (zaB zbX:Zs) (a0:Nat) (a1 a2:Int) (T0 T1:Tb):Option Ans:=
 zan (zaB [.h 2496 a0 0,.int .i64 a1] [T0]) fun r1=>
 nilK r1.outs <|
 nilK r1.tbs <|
 asI .i64 r1.r fun i2=>
 brK (i2 != 0)
  (some (Ans.mk (.tup [.sl .own [],.int .i64 i2]) [] []))
  (getK T0 a0 fun d3=>
  getK d3 ((3:Nat)) fun d4=>
  zbe d4 fun l5=>
  getK T0 a0 fun d6=>
  getK d6 ((3:Nat)) fun d7=>
  zbe d7 fun l8=>
  sif (0≤a1) <|
  sif (a1.toNat < l5.length) <|
  getK T0 a0 fun d9=>
  getK d9 ((3:Nat)) fun d10=>
  zbe d10 fun l11=>
  getK l11 (0+a1.toNat) fun d12=>
  sif (D.isAgg d12=false) <|
  sif (D.width d12=(1:Nat)) <|
  sif (D.cell d12=true) <|
  zan (zbX [d12,.int .i64 a2] [T1]) fun r13=>
  nilK r13.outs <|
  nilK r13.tbs <|
  zdP r13.r fun ts14=>
  zaz ([Lf.any,Lf.any]) ts14 fun c15=>
  zbe c15.1 fun l16=>
  asI .i64 c15.2.1 fun i17=>
  sif (l16.length=l16.length) <|
  sif (List.all l16 D.free=true) <|
  some (Ans.mk (.tup [.sl .own l16,.int .i64 i17]) [] []))
theorem zo2 (zaB zbX:Zs) (a0:Nat) (a1 a2:Int) (T0 T1:Tb):denS Tryz.prog (zax [(ID.bench_Bench_may,(.st [] [0] [(2496,false)] zaB)),(ID.disk_Disk_Read,(.st [] [1,0] [(8225,false)] zbX))]) zgT [1,0] ID.bench_Bench_Read [.h 2496 a0 0,.int .i64 a1,.int .i64 a2] [T0,T1]=zfB zaB zbX a0 a1 a2 T0 T1:=by kernel_rfl
theorem zlF (a0:Nat) (a1 a2:Int) (T0 T1:Tb):zaw [.h 2496 a0 0,.int .i64 a1,.int .i64 a2] [T0,T1]=zfB zaB zbX a0 a1 a2 T0 T1:=zo2 zaB zbX a0 a1 a2 T0 T1
def zuG:Ann:={ loops:=[] }
noncomputable def zcV:Zp:=denP Tryz.prog (zax [(ID.geom_Check,(.pure [0] zao))]) zuG [0] ID.row_in
theorem zxH:za2 Tryz.prog ID.row_in (.pure [0] zcV):=zam (zaA [zdG]) zbn ⟨Tryz.f100,by kernel_rfl,by kernel_rfl,by kernel_rfl⟩
noncomputable def zsT:Fact Tryz.prog:=⟨ID.row_in,(.pure [0] zcV),zxH⟩
noncomputable def zvZ (zao:Zp) (a0_0 a0_1 a0_2 a1:Int):Option D:=
 zan (zao [.agg [.int .i64 a0_0,.int .i64 a0_1,.int .i64 a0_2]]) fun r1=>
 asI .i64 r1 fun i2=>
 brK (i2 == 0)
  (brK (decide (a1≥0))
   (some (.bool (decide (a1 < 16))))
   (some (.bool false)))
  (some (.bool false))
theorem zED (zao:Zp) (a0_0 a0_1 a0_2 a1:Int):denP Tryz.prog (zax [(ID.geom_Check,(.pure [0] zao))]) zuG [0] ID.row_in [.agg [.int .i64 a0_0,.int .i64 a0_1,.int .i64 a0_2],.int .i64 a1]=zvZ zao a0_0 a0_1 a0_2 a1:=by kernel_rfl
theorem zyZ (a0_0 a0_1 a0_2 a1:Int):zcV [.agg [.int .i64 a0_0,.int .i64 a0_1,.int .i64 a0_2],.int .i64 a1]=zvZ zao a0_0 a0_1 a0_2 a1:=zED zao a0_0 a0_1 a0_2 a1
def zji:Ann:={ loops:=[(0,dd 3 (.own 1::dd 2 [.val (.cell .lent),.val (.cell (.int .i64)),.val (.cell (.int .i64))]))] }
noncomputable def zbU:Zp:=denP Tryz.prog (zax []) zji [1] ID.erase_Missing
theorem znQ:za2 Tryz.prog ID.erase_Missing (.pure [1] zbU):=zam (zaA []) zbn ⟨Tryz.f133,by kernel_rfl,by kernel_rfl,by kernel_rfl⟩
noncomputable def zo3:Fact Tryz.prog:=⟨ID.erase_Missing,(.pure [1] zbU),znQ⟩
noncomputable def zhM (a0:List D):Option D:=
 zb3 (α:=(List D×List D×Int×Int×PUnit)×PUnit) (fun again1 ((l2,(l3,(i4,(i5,_)))),_)=>
  brK (decide (i5 < i4))
   (sif (0≤i5) <|
   getK l3 (i5.toNat) fun d6=>
   asSl d6 fun t7 l8=>
   brK ((↑(l8.length):Int) == 0)
    (sif (l2.length+1≤4294967296) <|
    sif (l2.length=l2.length) <|
    letN (IntKind.i64.wrap (i5+1)) fun n9=>
    sif (l2.length+1=List.length (l2++[D.int .i64 i5])) <|
    again1 (((l2++[.int .i64 i5],l3,i4,n9,unit),unit)))
    (letN (IntKind.i64.wrap (i5+1)) fun n10=>
    sif (l2.length=l2.length) <|
    again1 (((l2,l3,i4,n10,unit),unit))))
   (sif (l2.length=l2.length) <|
   sif (List.all l2 D.free=true) <|
   some (.sl .own l2)))
  ((([],a0,(↑(a0.length):Int),(0:Int),unit),unit))
theorem zsU (tga0:Tag) (a0:List D):denP Tryz.prog (zax []) zji [1] ID.erase_Missing [.sl tga0 a0]=zhM (D.lentL a0):=by kernel_rfl
theorem zo4 (tga0:Tag) (a0:List D):zbU [.sl tga0 a0]=zhM (D.lentL a0):=zsU tga0 a0
def zki:Ann:={ loops:=[],hints:=[(1,.at1 (.int .i64))] }
noncomputable def zaI:Zp:=denP Tryz.prog (zax []) zki [0] ID.erase_fits_1
theorem zo5:za2 Tryz.prog ID.erase_fits_1 (.pure [0] zaI):=zam (zaA []) zbn ⟨Tryz.f153,by kernel_rfl,by kernel_rfl,by kernel_rfl⟩
noncomputable def zjj:Fact Tryz.prog:=⟨ID.erase_fits_1,(.pure [0] zaI),zo5⟩
noncomputable def ziw (a0:List D) (c0:Int):Option D:=
 brK (decide ((↑(a0.length):Int) > 0))
  (some (.bool ((↑(a0.length):Int) != c0)))
  (some (.bool false))
theorem ztG (tga0:Tag) (a0:List D) (c0:Int):denP Tryz.prog (zax []) zki [0] ID.erase_fits_1 [.sl tga0 a0,.at_ (.int .i64 c0)]=ziw (D.lentL a0) c0:=by kernel_rfl
theorem zpY (tga0:Tag) (a0:List D) (c0:Int):zaI [.sl tga0 a0,.at_ (.int .i64 c0)]=ziw (D.lentL a0) c0:=ztG tga0 a0 c0
def zjk:Ann:={ loops:=[] }
noncomputable def zav:Zp:=denP Tryz.prog (zax []) zjk [0] ID.row_sectors_1
theorem znR:za2 Tryz.prog ID.row_sectors_1 (.pure [0] zav):=zam (zaA []) zbn ⟨Tryz.f139,by kernel_rfl,by kernel_rfl,by kernel_rfl⟩
noncomputable def zfC:Fact Tryz.prog:=⟨ID.row_sectors_1,(.pure [0] zav),znR⟩
noncomputable def zhN (a0:List D):Option D:=
 some (.bool ((↑(a0.length):Int) != 32))
theorem zsV (tga0:Tag) (a0:List D):denP Tryz.prog (zax []) zjk [0] ID.row_sectors_1 [.sl tga0 a0]=zhN (D.lentL a0):=by kernel_rfl
theorem zo6 (tga0:Tag) (a0:List D):zav [.sl tga0 a0]=zhN (D.lentL a0):=zsV tga0 a0
def znS:Ann:={ loops:=[] }
noncomputable def zaC:Zp:=denP Tryz.prog (zax []) znS [0] ID.record_Decode_1
theorem zlG:za2 Tryz.prog ID.record_Decode_1 (.pure [0] zaC):=zam (zaA []) zbn ⟨Tryz.f108,by kernel_rfl,by kernel_rfl,by kernel_rfl⟩
noncomputable def zgU:Fact Tryz.prog:=⟨ID.record_Decode_1,(.pure [0] zaC),zlG⟩
def zcQ:List (Nat×Ann):=[(153,{ loops:=[(0,[.val (.cell .lent),.val (.fn1 (153:FuncId) (.int .i64)),.dead,.dead,.dead,.dead,.dead,.val (.cell (.int .i64)),.val (.cell (.int .i64))])] }),(139,{ loops:=[(0,[.val (.cell .lent),.fnc 139,.dead,.dead,.dead,.dead,.dead,.val (.cell (.int .i64)),.val (.cell (.int .i64))])] }),(108,{ loops:=[(0,[.val (.cell .lent),.fnc 108,.dead,.dead,.dead,.dead,.dead,.val (.cell (.int .i64)),.val (.cell (.int .i64))])] })]
noncomputable def zak:Zp:=denA Tryz.prog (zax [(ID.erase_fits_1,(.pure [0] zaI)),(ID.row_sectors_1,(.pure [0] zav)),(ID.record_Decode_1,(.pure [0] zaC))]) zcQ [0] ID.slices_IndexFunc_byte_byte
theorem zfM:za2 Tryz.prog ID.slices_IndexFunc_byte_byte (.pure [0] zak):=zux (zaA [zjj,zfC,zgU]) zbn ⟨Tryz.f143,by kernel_rfl,by kernel_rfl,by kernel_rfl⟩
noncomputable def zf9:Fact Tryz.prog:=⟨ID.slices_IndexFunc_byte_byte,(.pure [0] zak),zfM⟩
noncomputable def zcy (zaI zav zaC:Zp) (a0:List D) (c0:Int):Option D:=
 zb3 (α:=(List D×Int×Int×Int×PUnit)×PUnit) (fun again1 ((l2,(i3,(i4,(i5,_)))),_)=>
  brK (decide (i5 < i4))
   (sif (0≤i5) <|
   getK l2 (i5.toNat) fun d6=>
   asSl d6 fun t7 l8=>
   zan (zaI [.sl t7 l8,D.at_ (.int .i64 i3)]) fun r9=>
   asB r9 fun b10=>
   brK b10
    (some (.int .i64 i5))
    (letN (IntKind.i64.wrap (i5+1)) fun n11=>
    again1 (((l2,i3,i4,n11,unit),unit))))
   (some (.int .i64 (-1))))
  (((a0,c0,(↑(a0.length):Int),(0:Int),unit),unit))
theorem zfi (zaI zav zaC:Zp) (tga0:Tag) (a0:List D) (c0:Int):denA Tryz.prog (zax [(ID.erase_fits_1,(.pure [0] zaI)),(ID.row_sectors_1,(.pure [0] zav)),(ID.record_Decode_1,(.pure [0] zaC))]) zcQ [0] ID.slices_IndexFunc_byte_byte [.sl tga0 a0,.fn 153 [] [.at_ (.int .i64 c0)]]=zcy zaI zav zaC (D.lentL a0) c0:=by kernel_rfl
theorem zeO (tga0:Tag) (a0:List D) (c0:Int):zak [.sl tga0 a0,.fn 153 [] [.at_ (.int .i64 c0)]]=zcy zaI zav zaC (D.lentL a0) c0:=zfi zaI zav zaC tga0 a0 c0
noncomputable def zcn (zaI zav zaC:Zp) (a0:List D):Option D:=
 zb3 (α:=(List D×Int×Int×PUnit)×PUnit) (fun again1 ((l2,(i3,(i4,_))),_)=>
  brK (decide (i4 < i3))
   (sif (0≤i4) <|
   getK l2 (i4.toNat) fun d5=>
   asSl d5 fun t6 l7=>
   zan (zav [.sl t6 l7]) fun r8=>
   asB r8 fun b9=>
   brK b9
    (some (.int .i64 i4))
    (letN (IntKind.i64.wrap (i4+1)) fun n10=>
    again1 (((l2,i3,n10,unit),unit))))
   (some (.int .i64 (-1))))
  (((a0,(↑(a0.length):Int),(0:Int),unit),unit))
theorem zeP (zaI zav zaC:Zp) (tga0:Tag) (a0:List D):denA Tryz.prog (zax [(ID.erase_fits_1,(.pure [0] zaI)),(ID.row_sectors_1,(.pure [0] zav)),(ID.record_Decode_1,(.pure [0] zaC))]) zcQ [0] ID.slices_IndexFunc_byte_byte [.sl tga0 a0,.fn 139 [] []]=zcn zaI zav zaC (D.lentL a0):=by kernel_rfl
theorem zd7 (tga0:Tag) (a0:List D):zak [.sl tga0 a0,.fn 139 [] []]=zcn zaI zav zaC (D.lentL a0):=zeP zaI zav zaC tga0 a0
def zcD:Ann:={ loops:=[] }
noncomputable def zag:Zp:=denP Tryz.prog (zax [(ID.slices_IndexFunc_byte_byte,(.pure [0] zak)),(ID.erase_fits_1,(.pure [0] zaI)),(ID.row_sectors_1,(.pure [0] zav)),(ID.record_Decode_1,(.pure [0] zaC))]) zcD [0] ID.slices_ContainsFunc_byte_byte
theorem ze6:za2 Tryz.prog ID.slices_ContainsFunc_byte_byte (.pure [0] zag):=zam (zaA [zf9,zjj,zfC,zgU]) zbn ⟨Tryz.f107,by kernel_rfl,by kernel_rfl,by kernel_rfl⟩
noncomputable def zdh:Fact Tryz.prog:=⟨ID.slices_ContainsFunc_byte_byte,(.pure [0] zag),ze6⟩
noncomputable def zco (zak zaI zav zaC:Zp) (a0:List D) (c0:Int):Option D:=
 zan (zak [.sl .lent a0,.fn (153:FuncId) [] [D.at_ (.int .i64 c0)]]) fun r1=>
 asI .i64 r1 fun i2=>
 some (.bool (decide (i2≥0)))
theorem zeQ (zak zaI zav zaC:Zp) (tga0:Tag) (a0:List D) (c0:Int):denP Tryz.prog (zax [(ID.slices_IndexFunc_byte_byte,(.pure [0] zak)),(ID.erase_fits_1,(.pure [0] zaI)),(ID.row_sectors_1,(.pure [0] zav)),(ID.record_Decode_1,(.pure [0] zaC))]) zcD [0] ID.slices_ContainsFunc_byte_byte [.sl tga0 a0,.fn 153 [] [.at_ (.int .i64 c0)]]=zco zak zaI zav zaC (D.lentL a0) c0:=by kernel_rfl
theorem zd8 (tga0:Tag) (a0:List D) (c0:Int):zag [.sl tga0 a0,.fn 153 [] [.at_ (.int .i64 c0)]]=zco zak zaI zav zaC (D.lentL a0) c0:=zeQ zak zaI zav zaC tga0 a0 c0
noncomputable def zcc (zak zaI zav zaC:Zp) (a0:List D):Option D:=
 zan (zak [.sl .lent a0,.fn (139:FuncId) [] []]) fun r1=>
 asI .i64 r1 fun i2=>
 some (.bool (decide (i2≥0)))
theorem zd9 (zak zaI zav zaC:Zp) (tga0:Tag) (a0:List D):denP Tryz.prog (zax [(ID.slices_IndexFunc_byte_byte,(.pure [0] zak)),(ID.erase_fits_1,(.pure [0] zaI)),(ID.row_sectors_1,(.pure [0] zav)),(ID.record_Decode_1,(.pure [0] zaC))]) zcD [0] ID.slices_ContainsFunc_byte_byte [.sl tga0 a0,.fn 139 [] []]=zcc zak zaI zav zaC (D.lentL a0):=by kernel_rfl
theorem zdS (tga0:Tag) (a0:List D):zag [.sl tga0 a0,.fn 139 [] []]=zcc zak zaI zav zaC (D.lentL a0):=zd9 zak zaI zav zaC tga0 a0
def zm8:Ann:={ loops:=[] }
noncomputable def zcq:Zp:=denP Tryz.prog (zax [(ID.slices_ContainsFunc_byte_byte,(.pure [0] zag))]) zm8 [0] ID.erase_fits
theorem zq2:za2 Tryz.prog ID.erase_fits (.pure [0] zcq):=zam (zaA [zdh]) zbn ⟨Tryz.f134,by kernel_rfl,by kernel_rfl,by kernel_rfl⟩
noncomputable def zsW:Fact Tryz.prog:=⟨ID.erase_fits,(.pure [0] zcq),zq2⟩
noncomputable def zlH (zag:Zp) (a0:Int) (a1:List D):Option D:=
 zan (zag [.sl .lent a1,.fn (153:Nat) [] [D.at_ (.int .i64 a0)]]) fun r1=>
 asB r1 fun b2=>
 some (.bool !b2)
theorem zxI (zag:Zp) (tga1:Tag) (a0:Int) (a1:List D):denP Tryz.prog (zax [(ID.slices_ContainsFunc_byte_byte,(.pure [0] zag))]) zm8 [0] ID.erase_fits [.int .i64 a0,.sl tga1 a1]=zlH zag a0 (D.lentL a1):=by kernel_rfl
theorem zsX (tga1:Tag) (a0:Int) (a1:List D):zcq [.int .i64 a0,.sl tga1 a1]=zlH zag a0 (D.lentL a1):=zxI zag tga1 a0 a1
def zkj:Ann:={ loops:=[(0,.val (.cell (.int .i64))::dd 4 (.own 1::dd 3 [.val (.cell .lent),.val (.cell (.int .i64)),.val (.cell (.int .i64))]))] }
noncomputable def zb6:Zp:=denP Tryz.prog (zax []) zkj [1] ID.erase_filled
theorem zo7:za2 Tryz.prog ID.erase_filled (.pure [1] zb6):=zam (zaA []) zbn ⟨Tryz.f135,by kernel_rfl,by kernel_rfl,by kernel_rfl⟩
noncomputable def zpZ:Fact Tryz.prog:=⟨ID.erase_filled,(.pure [1] zb6),zo7⟩
noncomputable def zix (a0:Int) (a1:List D):Option D:=
 zb3 (α:=(Int×List D×List D×Int×Int×PUnit)×PUnit) (fun again1 ((i2,(l3,(l4,(i5,(i6,_))))),_)=>
  brK (decide (i6 < i5))
   (sif (0≤i6) <|
   getK l4 (i6.toNat) fun d7=>
   asSl d7 fun t8 l9=>
   sif (0≤i2) <|
   sif (i2=i2) <|
   sif (i2*1≤140737488355328) <|
   sif (i2≤140737488355328) <|
   sif (0+i2.toNat≤List.length (List.replicate (i2.toNat) (D.int .u8 0))) <|
   sif (cells l9=true) <|
   sif (0+i2.toNat≤List.length ([]++List.take (i2.toNat) l9++List.drop (0+List.length (List.take (i2.toNat) l9)) (List.replicate (i2.toNat) (D.int .u8 0)))) <|
   sif (l3.length+1≤4294967296) <|
   sif (l3.length=l3.length) <|
   letN (IntKind.i64.wrap (i6+1)) fun n10=>
   sif (l3.length+1=List.length (l3++[D.sl .fresh (cut (0:Nat) (i2.toNat) ([]++List.take (i2.toNat) l9++List.drop (0+List.length (List.take (i2.toNat) l9)) (List.replicate (i2.toNat) (D.int .u8 0))))])) <|
   again1 (((i2,l3++[.sl .fresh (cut (0:Nat) (i2.toNat) ([]++List.take (i2.toNat) l9++List.drop (0+List.length (List.take (i2.toNat) l9)) (List.replicate (i2.toNat) (.int .u8 0))))],l4,i5,n10,unit),unit)))
   (sif (l3.length=l3.length) <|
   sif (List.all l3 D.free=true) <|
   some (.sl .own l3)))
  (((a0,[],a1,(↑(a1.length):Int),(0:Int),unit),unit))
theorem ztH (tga1:Tag) (a0:Int) (a1:List D):denP Tryz.prog (zax []) zkj [1] ID.erase_filled [.int .i64 a0,.sl tga1 a1]=zix a0 (D.lentL a1):=by kernel_rfl
theorem zp0 (tga1:Tag) (a0:Int) (a1:List D):zb6 [.int .i64 a0,.sl tga1 a1]=zix a0 (D.lentL a1):=ztH tga1 a0 a1
def zo8:Ann:={ loops:=[] }
noncomputable def zbc:Zp:=denP Tryz.prog (zax []) zo8 [0] ID.gf_double
theorem zsY:za2 Tryz.prog ID.gf_double (.pure [0] zbc):=zam (zaA []) zbn ⟨Tryz.f156,by kernel_rfl,by kernel_rfl,by kernel_rfl⟩
noncomputable def ziy:Fact Tryz.prog:=⟨ID.gf_double,(.pure [0] zbc),zsY⟩
noncomputable def znT (a0:Int):Option D:=
 brK (decide (a0≥128))
  (letN (IntKind.u8.wrap (a0*2)) fun n1=>
  letN (bits BinOp.xor IntKind.u8 n1 (29:Int)) fun n2=>
  some (.int .u8 n2))
  (letN (IntKind.u8.wrap (a0*2)) fun n3=>
  some (.int .u8 n3))
theorem zy0 (a0:Int):denP Tryz.prog (zax []) zo8 [0] ID.gf_double [.int .u8 a0]=znT a0:=by kernel_rfl
theorem ztI (a0:Int):zbc [.int .u8 a0]=znT a0:=zy0 a0
def zuH:Ann:={ loops:=[(0,.val (.cell (.int .u8))::.val (.cell (.int .u8))::dd 3 [.val (.cell (.int .u8))])] }
noncomputable def zeV:Zp:=denP Tryz.prog (zax [(ID.gf_double,(.pure [0] zbc))]) zuH [0] ID.gf_Mul
theorem zxJ:za2 Tryz.prog ID.gf_Mul (.pure [0] zeV):=zam (zaA [ziy]) zbn ⟨Tryz.f160,by kernel_rfl,by kernel_rfl,by kernel_rfl⟩
noncomputable def zy1:Fact Tryz.prog:=⟨ID.gf_Mul,(.pure [0] zeV),zxJ⟩
noncomputable def zv0 (zbc:Zp) (a0 a1:Int):Option D:=
 zb3 (α:=(Int×Int×Int×PUnit)×PUnit) (fun again1 ((i2,(i3,(i4,_))),_)=>
  brK (decide (i3 > 0))
   (letN (bits BinOp.and IntKind.u8 i3 (1:Int)) fun n5=>
   brK (n5 == 1)
    (letN (bits BinOp.xor IntKind.u8 i4 i2) fun n6=>
    zan (zbc [.int .u8 i2]) fun r7=>
    asI .u8 r7 fun i8=>
    letN (Int.fdiv i3 (2:Int)) fun n9=>
    again1 (((i8,n9,n6,unit),unit)))
    (zan (zbc [.int .u8 i2]) fun r10=>
    asI .u8 r10 fun i11=>
    letN (Int.fdiv i3 (2:Int)) fun n12=>
    again1 (((i11,n12,i4,unit),unit))))
   (some (.int .u8 i4)))
  (((a0,a1,(0:Int),unit),unit))
theorem zEE (zbc:Zp) (a0 a1:Int):denP Tryz.prog (zax [(ID.gf_double,(.pure [0] zbc))]) zuH [0] ID.gf_Mul [.int .u8 a0,.int .u8 a1]=zv0 zbc a0 a1:=by kernel_rfl
theorem zy2 (a0 a1:Int):zeV [.int .u8 a0,.int .u8 a1]=zv0 zbc a0 a1:=zEE zbc a0 a1
def zm9:Ann:={ loops:=[(0,.dead::.val (.cell (.int .u8))::dd 3 (.own 1::dd 2 [.val (.cell .lent),.val (.cell (.int .i64)),.val (.cell (.int .i64))]))] }
noncomputable def zaL:Zp:=denP Tryz.prog (zax [(ID.gf_Mul,(.pure [0] zeV))]) zm9 [1] ID.synd_Scale
theorem zq3:za2 Tryz.prog ID.synd_Scale (.pure [1] zaL):=zam (zaA [zy1]) zbn ⟨Tryz.f155,by kernel_rfl,by kernel_rfl,by kernel_rfl⟩
noncomputable def zhO:Fact Tryz.prog:=⟨ID.synd_Scale,(.pure [1] zaL),zq3⟩
noncomputable def zlI (zeV:Zp) (a0:List D) (a1:Int):Option D:=
 zb3 (α:=(Int×List D×List D×Int×Int×PUnit)×PUnit) (fun again1 ((i2,(l3,(l4,(i5,(i6,_))))),_)=>
  brK (decide (i6 < i5))
   (sif (0≤i6) <|
   getK l4 (i6.toNat) fun d7=>
   asI .u8 d7 fun i8=>
   zan (zeV [.int .u8 i8,.int .u8 i2]) fun r9=>
   asI .u8 r9 fun i10=>
   sif (l3.length+1≤4294967296) <|
   sif (l3.length=l3.length) <|
   letN (IntKind.i64.wrap (i6+1)) fun n11=>
   sif (l3.length+1=List.length (l3++[D.int .u8 i10])) <|
   again1 (((i2,l3++[.int .u8 i10],l4,i5,n11,unit),unit)))
   (sif (l3.length=l3.length) <|
   sif (List.all l3 D.free=true) <|
   some (.sl .own l3)))
  (((a1,[],a0,(↑(a0.length):Int),(0:Int),unit),unit))
theorem zxK (zeV:Zp) (tga0:Tag) (a0:List D) (a1:Int):denP Tryz.prog (zax [(ID.gf_Mul,(.pure [0] zeV))]) zm9 [1] ID.synd_Scale [.sl tga0 a0,.int .u8 a1]=zlI zeV (D.lentL a0) a1:=by kernel_rfl
theorem zsZ (tga0:Tag) (a0:List D) (a1:Int):zaL [.sl tga0 a0,.int .u8 a1]=zlI zeV (D.lentL a0) a1:=zxK zeV tga0 a0 a1
def zqK:Ann:={ loops:=[(1,.dead::.val (.cell .lent)::dd 3 (.own 1::dd 7 [.val (.cell .lent),.val (.cell (.int .i64)),.val (.cell (.int .i64))]))] }
noncomputable def zaO:Zp:=denP Tryz.prog (zax []) zqK [1] ID.synd_Add
theorem ztJ:za2 Tryz.prog ID.synd_Add (.pure [1] zaO):=zam (zaA []) zbn ⟨Tryz.f137,by kernel_rfl,by kernel_rfl,by kernel_rfl⟩
noncomputable def zg9:Fact Tryz.prog:=⟨ID.synd_Add,(.pure [1] zaO),ztJ⟩
noncomputable def zp1 (a0 a1:List D):Option D:=
 brK ((↑(a0.length):Int) != (↑(a1.length):Int))
  (some (.sl .own []))
  (zb3 (α:=(List D×List D×List D×Int×Int×PUnit)×PUnit) (fun again1 ((l2,(l3,(l4,(i5,(i6,_))))),_)=>
   brK (decide (i6 < i5))
    (sif (0≤i6) <|
    getK l4 (i6.toNat) fun d7=>
    asI .u8 d7 fun i8=>
    sif (0≤i6) <|
    getK l2 (i6.toNat) fun d9=>
    asI .u8 d9 fun i10=>
    letN (bits BinOp.xor IntKind.u8 i8 i10) fun n11=>
    sif (l3.length+1≤4294967296) <|
    sif (l3.length=l3.length) <|
    letN (IntKind.i64.wrap (i6+1)) fun n12=>
    sif (l3.length+1=List.length (l3++[D.int .u8 n11])) <|
    again1 (((l2,l3++[.int .u8 n11],l4,i5,n12,unit),unit)))
    (sif (l3.length=l3.length) <|
    sif (List.all l3 D.free=true) <|
    some (.sl .own l3)))
   (((a1,[],a0,(↑(a0.length):Int),(0:Int),unit),unit)))
theorem zA9 (tga0 tga1:Tag) (a0 a1:List D):denP Tryz.prog (zax []) zqK [1] ID.synd_Add [.sl tga0 a0,.sl tga1 a1]=zp1 (D.lentL a0) (D.lentL a1):=by kernel_rfl
theorem zv1 (tga0 tga1:Tag) (a0 a1:List D):zaO [.sl tga0 a0,.sl tga1 a1]=zp1 (D.lentL a0) (D.lentL a1):=zA9 tga0 tga1 a0 a1
def zuI:Ann:={ loops:=[(0,dd 3 (.val (.cell (.int .u8))::dd 3 [.val (.cell (.int .i64)),.val (.cell (.int .i64))]))] }
noncomputable def za0:Zp:=denP Tryz.prog (zax [(ID.gf_double,(.pure [0] zbc))]) zuI [0] ID.gf_Pow
theorem zxL:za2 Tryz.prog ID.gf_Pow (.pure [0] za0):=zam (zaA [ziy]) zbn ⟨Tryz.f142,by kernel_rfl,by kernel_rfl,by kernel_rfl⟩
noncomputable def zhP:Fact Tryz.prog:=⟨ID.gf_Pow,(.pure [0] za0),zxL⟩
noncomputable def zrr (zbc:Zp) (a0:Int):Option D:=
 letN (Int.tmod a0 (255:Int)) fun n1=>
 letN (IntKind.i64.wrap (n1+255)) fun n2=>
 letN (Int.tmod n2 (255:Int)) fun n3=>
 zb3 (α:=(Int×Int×Int×PUnit)×PUnit) (fun again4 ((i5,(i6,(i7,_))),_)=>
  brK (decide (i7 < i6))
   (zan (zbc [.int .u8 i5]) fun r8=>
   asI .u8 r8 fun i9=>
   letN (IntKind.i64.wrap (i7+1)) fun n10=>
   again4 (((i9,i6,n10,unit),unit)))
   (some (.int .u8 i5)))
  ((((1:Int),n3,(0:Int),unit),unit))
theorem zEF (zbc:Zp) (a0:Int):denP Tryz.prog (zax [(ID.gf_double,(.pure [0] zbc))]) zuI [0] ID.gf_Pow [.int .i64 a0]=zrr zbc a0:=by kernel_rfl
theorem zs0 (a0:Int):za0 [.int .i64 a0]=zrr zbc a0:=zEF zbc a0
def zqL:Ann:={ loops:=[] }
noncomputable def zbQ:Zp:=denP Tryz.prog (zax []) zqL [0] ID.synd_P_1
theorem ztK:za2 Tryz.prog ID.synd_P_1 (.pure [0] zbQ):=zam (zaA []) zbn ⟨Tryz.f141,by kernel_rfl,by kernel_rfl,by kernel_rfl⟩
noncomputable def zo9:Fact Tryz.prog:=⟨ID.synd_P_1,(.pure [0] zbQ),ztK⟩
noncomputable def zuJ (a0:Int):Option D:=
 some (.int .u8 1)
theorem zBa (a0:Int):denP Tryz.prog (zax []) zqL [0] ID.synd_P_1 [.int .i64 a0]=zuJ a0:=by kernel_rfl
theorem zv2 (a0:Int):zbQ [.int .i64 a0]=zuJ a0:=zBa a0
def zlJ:List (Nat×Ann):=[(141,{ loops:=[(1,[.dead,.fnc 141,.dead,.dead,.dead,.own 1,.dead,.dead,.dead,.dead,.dead,.dead,.dead,.dead,.dead,.dead,.val (.cell .lent),.val (.cell (.int .i64)),.val (.cell (.int .i64))])] }),(142,{ loops:=[(1,[.dead,.fnc 142,.dead,.dead,.dead,.own 1,.dead,.dead,.dead,.dead,.dead,.dead,.dead,.dead,.dead,.dead,.val (.cell .lent),.val (.cell (.int .i64)),.val (.cell (.int .i64))])] })]
noncomputable def zb2:Zp:=denA Tryz.prog (zax [(ID.synd_Scale,(.pure [1] zaL)),(ID.synd_Add,(.pure [1] zaO)),(ID.gf_Pow,(.pure [0] za0)),(ID.synd_P_1,(.pure [0] zbQ))]) zlJ [1] ID.synd_sum
theorem ztL:za2 Tryz.prog ID.synd_sum (.pure [1] zb2):=zux (zaA [zhO,zg9,zhP,zo9]) zbn ⟨Tryz.f140,by kernel_rfl,by kernel_rfl,by kernel_rfl⟩
noncomputable def zpa:Fact Tryz.prog:=⟨ID.synd_sum,(.pure [1] zb2),ztL⟩
noncomputable def zj0 (zaL zaO za0 zbQ:Zp) (a0:List D):Option D:=
 brK ((↑(a0.length):Int) == 0)
  (some (.sl .own []))
  (getK a0 ((0:Nat)) fun d1=>
  asSl d1 fun t2 l3=>
  sif ((↑(l3.length):Int)=(↑(l3.length):Int)) <|
  sif ((↑(l3.length):Int)*1≤140737488355328) <|
  sif ((↑(l3.length):Int)≤140737488355328) <|
  sif (Int.toNat (↑(l3.length):Int)=List.length (List.replicate (Int.toNat (↑(l3.length):Int)) (D.int .u8 0))) <|
  zb3 (α:=(List D×List D×Int×Int×PUnit)×PUnit) (fun again4 ((l5,(l6,(i7,(i8,_)))),_)=>
   brK (decide (i8 < i7))
    (sif (0≤i8) <|
    getK l6 (i8.toNat) fun d9=>
    asSl d9 fun t10 l11=>
    sif (0+l5.length≤l5.length) <|
    brK ((↑(l11.length):Int) != (↑(l5.length):Int))
     (some (.sl .own []))
     (zan (zbQ [.int .i64 i8]) fun r12=>
     asI .u8 r12 fun i13=>
     zan (zaL [.sl t10 l11,.int .u8 i13]) fun r14=>
     zbe r14 fun l15=>
     sif (0+l5.length≤l5.length) <|
     sif (0+l15.length≤l15.length) <|
     zan (zaO [.sl .lent (cut 0 l5.length l5),.sl .lent (cut 0 l15.length l15)]) fun r16=>
     zbe r16 fun l17=>
     letN (IntKind.i64.wrap (i8+1)) fun n18=>
     sif (l17.length=l17.length) <|
     again4 (((l17,l6,i7,n18,unit),unit))))
    (sif (l5.length=l5.length) <|
    sif (List.all l5 D.free=true) <|
    some (.sl .own l5)))
   (((List.replicate (Int.toNat (↑(l3.length):Int)) (.int .u8 0),a0,(↑(a0.length):Int),(0:Int),unit),unit)))
theorem zv3 (zaL zaO za0 zbQ:Zp) (tga0:Tag) (a0:List D):denA Tryz.prog (zax [(ID.synd_Scale,(.pure [1] zaL)),(ID.synd_Add,(.pure [1] zaO)),(ID.gf_Pow,(.pure [0] za0)),(ID.synd_P_1,(.pure [0] zbQ))]) zlJ [1] ID.synd_sum [.sl tga0 a0,.fn 141 [] []]=zj0 zaL zaO za0 zbQ (D.lentL a0):=by kernel_rfl
theorem zq4 (tga0:Tag) (a0:List D):zb2 [.sl tga0 a0,.fn 141 [] []]=zj0 zaL zaO za0 zbQ (D.lentL a0):=zv3 zaL zaO za0 zbQ tga0 a0
noncomputable def zj1 (zaL zaO za0 zbQ:Zp) (a0:List D):Option D:=
 brK ((↑(a0.length):Int) == 0)
  (some (.sl .own []))
  (getK a0 ((0:Nat)) fun d1=>
  asSl d1 fun t2 l3=>
  sif ((↑(l3.length):Int)=(↑(l3.length):Int)) <|
  sif ((↑(l3.length):Int)*1≤140737488355328) <|
  sif ((↑(l3.length):Int)≤140737488355328) <|
  sif (Int.toNat (↑(l3.length):Int)=List.length (List.replicate (Int.toNat (↑(l3.length):Int)) (D.int .u8 0))) <|
  zb3 (α:=(List D×List D×Int×Int×PUnit)×PUnit) (fun again4 ((l5,(l6,(i7,(i8,_)))),_)=>
   brK (decide (i8 < i7))
    (sif (0≤i8) <|
    getK l6 (i8.toNat) fun d9=>
    asSl d9 fun t10 l11=>
    sif (0+l5.length≤l5.length) <|
    brK ((↑(l11.length):Int) != (↑(l5.length):Int))
     (some (.sl .own []))
     (zan (za0 [.int .i64 i8]) fun r12=>
     asI .u8 r12 fun i13=>
     zan (zaL [.sl t10 l11,.int .u8 i13]) fun r14=>
     zbe r14 fun l15=>
     sif (0+l5.length≤l5.length) <|
     sif (0+l15.length≤l15.length) <|
     zan (zaO [.sl .lent (cut 0 l5.length l5),.sl .lent (cut 0 l15.length l15)]) fun r16=>
     zbe r16 fun l17=>
     letN (IntKind.i64.wrap (i8+1)) fun n18=>
     sif (l17.length=l17.length) <|
     again4 (((l17,l6,i7,n18,unit),unit))))
    (sif (l5.length=l5.length) <|
    sif (List.all l5 D.free=true) <|
    some (.sl .own l5)))
   (((List.replicate (Int.toNat (↑(l3.length):Int)) (.int .u8 0),a0,(↑(a0.length):Int),(0:Int),unit),unit)))
theorem zv4 (zaL zaO za0 zbQ:Zp) (tga0:Tag) (a0:List D):denA Tryz.prog (zax [(ID.synd_Scale,(.pure [1] zaL)),(ID.synd_Add,(.pure [1] zaO)),(ID.gf_Pow,(.pure [0] za0)),(ID.synd_P_1,(.pure [0] zbQ))]) zlJ [1] ID.synd_sum [.sl tga0 a0,.fn 142 [] []]=zj1 zaL zaO za0 zbQ (D.lentL a0):=by kernel_rfl
theorem zq5 (tga0:Tag) (a0:List D):zb2 [.sl tga0 a0,.fn 142 [] []]=zj1 zaL zaO za0 zbQ (D.lentL a0):=zv4 zaL zaO za0 zbQ tga0 a0
def zuK:Ann:={ loops:=[] }
noncomputable def zcd:Zp:=denP Tryz.prog (zax [(ID.synd_sum,(.pure [1] zb2)),(ID.synd_P_1,(.pure [0] zbQ))]) zuK [1] ID.synd_P
theorem zxM:za2 Tryz.prog ID.synd_P (.pure [1] zcd):=zam (zaA [zpa,zo9]) zbn ⟨Tryz.f105,by kernel_rfl,by kernel_rfl,by kernel_rfl⟩
noncomputable def znU:Fact Tryz.prog:=⟨ID.synd_P,(.pure [1] zcd),zxM⟩
noncomputable def zv5 (zb2 zbQ:Zp) (a0:List D):Option D:=
 zan (zb2 [.sl .lent a0,.fn (141:Nat) [] []]) fun r1=>
 zbe r1 fun l2=>
 sif (l2.length=l2.length) <|
 sif (List.all l2 D.free=true) <|
 some (.sl .own l2)
theorem zEG (zb2 zbQ:Zp) (tga0:Tag) (a0:List D):denP Tryz.prog (zax [(ID.synd_sum,(.pure [1] zb2)),(ID.synd_P_1,(.pure [0] zbQ))]) zuK [1] ID.synd_P [.sl tga0 a0]=zv5 zb2 zbQ (D.lentL a0):=by kernel_rfl
theorem zy3 (tga0:Tag) (a0:List D):zcd [.sl tga0 a0]=zv5 zb2 zbQ (D.lentL a0):=zEG zb2 zbQ tga0 a0
def zuL:Ann:={ loops:=[] }
noncomputable def zce:Zp:=denP Tryz.prog (zax [(ID.synd_sum,(.pure [1] zb2)),(ID.gf_Pow,(.pure [0] za0))]) zuL [1] ID.synd_Q
theorem zxN:za2 Tryz.prog ID.synd_Q (.pure [1] zce):=zam (zaA [zpa,zhP]) zbn ⟨Tryz.f106,by kernel_rfl,by kernel_rfl,by kernel_rfl⟩
noncomputable def znV:Fact Tryz.prog:=⟨ID.synd_Q,(.pure [1] zce),zxN⟩
noncomputable def zv6 (zb2 za0:Zp) (a0:List D):Option D:=
 zan (zb2 [.sl .lent a0,.fn (142:Nat) [] []]) fun r1=>
 zbe r1 fun l2=>
 sif (l2.length=l2.length) <|
 sif (List.all l2 D.free=true) <|
 some (.sl .own l2)
theorem zEH (zb2 za0:Zp) (tga0:Tag) (a0:List D):denP Tryz.prog (zax [(ID.synd_sum,(.pure [1] zb2)),(ID.gf_Pow,(.pure [0] za0))]) zuL [1] ID.synd_Q [.sl tga0 a0]=zv6 zb2 za0 (D.lentL a0):=by kernel_rfl
theorem zy4 (tga0:Tag) (a0:List D):zce [.sl tga0 a0]=zv6 zb2 za0 (D.lentL a0):=zEH zb2 za0 tga0 a0
def zuM:Ann:={ loops:=[(0,.val (.cell (.int .u8))::dd 2 [.val (.cell (.int .u8)),.dead,.val (.cell (.int .i64))])] }
noncomputable def zeW:Zp:=denP Tryz.prog (zax [(ID.gf_double,(.pure [0] zbc))]) zuM [0] ID.gf_Log
theorem zxO:za2 Tryz.prog ID.gf_Log (.pure [0] zeW):=zam (zaA [ziy]) zbn ⟨Tryz.f159,by kernel_rfl,by kernel_rfl,by kernel_rfl⟩
noncomputable def zy5:Fact Tryz.prog:=⟨ID.gf_Log,(.pure [0] zeW),zxO⟩
noncomputable def zv7 (zbc:Zp) (a0:Int):Option D:=
 zb3 (α:=(Int×Int×Int×PUnit)×PUnit) (fun again1 ((i2,(i3,(i4,_))),_)=>
  brK (decide (i4 < 255))
   (brK (i3 == i2)
    (some (.int .i64 i4))
    (zan (zbc [.int .u8 i3]) fun r5=>
    asI .u8 r5 fun i6=>
    letN (IntKind.i64.wrap (i4+1)) fun n7=>
    again1 (((i2,i6,n7,unit),unit))))
   (some (.int .i64 (-1))))
  (((a0,(1:Int),(0:Int),unit),unit))
theorem zEI (zbc:Zp) (a0:Int):denP Tryz.prog (zax [(ID.gf_double,(.pure [0] zbc))]) zuM [0] ID.gf_Log [.int .u8 a0]=zv7 zbc a0:=by kernel_rfl
theorem zy6 (a0:Int):zeW [.int .u8 a0]=zv7 zbc a0:=zEI zbc a0
def zuN:Ann:={ loops:=[] }
noncomputable def zcW:Zp:=denP Tryz.prog (zax [(ID.gf_Log,(.pure [0] zeW)),(ID.gf_Pow,(.pure [0] za0))]) zuN [0] ID.gf_Inv
theorem zxP:za2 Tryz.prog ID.gf_Inv (.pure [0] zcW):=zam (zaA [zy5,zhP]) zbn ⟨Tryz.f154,by kernel_rfl,by kernel_rfl,by kernel_rfl⟩
noncomputable def zs1:Fact Tryz.prog:=⟨ID.gf_Inv,(.pure [0] zcW),zxP⟩
noncomputable def zv8 (zeW za0:Zp) (a0:Int):Option D:=
 brK (a0 == 0)
  (some (.int .u8 0))
  (zan (zeW [.int .u8 a0]) fun r1=>
  asI .i64 r1 fun i2=>
  letN (IntKind.i64.wrap ((255:Int) - i2)) fun n3=>
  zan (za0 [.int .i64 n3]) fun r4=>
  asI .u8 r4 fun i5=>
  some (.int .u8 i5))
theorem zEJ (zeW za0:Zp) (a0:Int):denP Tryz.prog (zax [(ID.gf_Log,(.pure [0] zeW)),(ID.gf_Pow,(.pure [0] za0))]) zuN [0] ID.gf_Inv [.int .u8 a0]=zv8 zeW za0 a0:=by kernel_rfl
theorem zy7 (a0:Int):zcW [.int .u8 a0]=zv8 zeW za0 a0:=zEJ zeW za0 a0
def zpb:Ann:={ loops:=[] }
noncomputable def zc1:Zp:=denP Tryz.prog (zax [(ID.synd_P,(.pure [1] zcd)),(ID.synd_Add,(.pure [1] zaO)),(ID.synd_Q,(.pure [1] zce)),(ID.gf_Pow,(.pure [0] za0)),(ID.gf_Inv,(.pure [0] zcW)),(ID.synd_Scale,(.pure [1] zaL))]) zpb [1,1] ID.erase_two
theorem zs2:za2 Tryz.prog ID.erase_two (.pure [1,1] zc1):=zam (zaA [znU,zg9,znV,zhP,zs1,zhO]) zbn ⟨Tryz.f136,by kernel_rfl,by kernel_rfl,by kernel_rfl⟩
noncomputable def ztM:Fact Tryz.prog:=⟨ID.erase_two,(.pure [1,1] zc1),zs2⟩
noncomputable def znW (zcd zaO zce za0 zcW zaL:Zp) (a0 a1 a2:List D) (a3 a4:Int):Option D:=
 zan (zcd [.sl .lent a2]) fun r1=>
 zbe r1 fun l2=>
 sif (0+l2.length≤l2.length) <|
 zan (zaO [.sl .lent a0,.sl .lent (cut 0 l2.length l2)]) fun r3=>
 zbe r3 fun l4=>
 zan (zce [.sl .lent a2]) fun r5=>
 zbe r5 fun l6=>
 sif (0+l6.length≤l6.length) <|
 zan (zaO [.sl .lent a1,.sl .lent (cut 0 l6.length l6)]) fun r7=>
 zbe r7 fun l8=>
 zan (za0 [.int .i64 a3]) fun r9=>
 asI .u8 r9 fun i10=>
 zan (za0 [.int .i64 a4]) fun r11=>
 asI .u8 r11 fun i12=>
 letN (bits BinOp.xor IntKind.u8 i10 i12) fun n13=>
 zan (zcW [.int .u8 n13]) fun r14=>
 asI .u8 r14 fun i15=>
 zan (za0 [.int .i64 a4]) fun r16=>
 asI .u8 r16 fun i17=>
 sif (0+l4.length≤l4.length) <|
 zan (zaL [.sl .lent (cut 0 l4.length l4),.int .u8 i17]) fun r18=>
 zbe r18 fun l19=>
 sif (0+l8.length≤l8.length) <|
 sif (0+l19.length≤l19.length) <|
 zan (zaO [.sl .lent (cut 0 l8.length l8),.sl .lent (cut 0 l19.length l19)]) fun r20=>
 zbe r20 fun l21=>
 sif (0+l21.length≤l21.length) <|
 zan (zaL [.sl .lent (cut 0 l21.length l21),.int .u8 i15]) fun r22=>
 zbe r22 fun l23=>
 sif (0+l4.length≤l4.length) <|
 sif (0+l23.length≤l23.length) <|
 zan (zaO [.sl .lent (cut 0 l4.length l4),.sl .lent (cut 0 l23.length l23)]) fun r24=>
 zbe r24 fun l25=>
 sif (l23.length=l23.length) <|
 sif (List.all l23 D.free=true) <|
 sif (l25.length=l25.length) <|
 sif (List.all l25 D.free=true) <|
 some (.tup [.sl .own l23,.sl .own l25])
theorem zy8 (zcd zaO zce za0 zcW zaL:Zp) (tga0 tga1 tga2:Tag) (a0 a1 a2:List D) (a3 a4:Int):denP Tryz.prog (zax [(ID.synd_P,(.pure [1] zcd)),(ID.synd_Add,(.pure [1] zaO)),(ID.synd_Q,(.pure [1] zce)),(ID.gf_Pow,(.pure [0] za0)),(ID.gf_Inv,(.pure [0] zcW)),(ID.synd_Scale,(.pure [1] zaL))]) zpb [1,1] ID.erase_two [.sl tga0 a0,.sl tga1 a1,.sl tga2 a2,.int .i64 a3,.int .i64 a4]=znW zcd zaO zce za0 zcW zaL (D.lentL a0) (D.lentL a1) (D.lentL a2) a3 a4:=by kernel_rfl
theorem ztN (tga0 tga1 tga2:Tag) (a0 a1 a2:List D) (a3 a4:Int):zc1 [.sl tga0 a0,.sl tga1 a1,.sl tga2 a2,.int .i64 a3,.int .i64 a4]=znW zcd zaO zce za0 zcW zaL (D.lentL a0) (D.lentL a1) (D.lentL a2) a3 a4:=zy8 zcd zaO zce za0 zcW zaL tga0 tga1 tga2 a0 a1 a2 a3 a4
def zpc:Ann:={ loops:=[] }
noncomputable def zcJ:Zp:=denP Tryz.prog (zax [(ID.synd_Q,(.pure [1] zce)),(ID.synd_Add,(.pure [1] zaO)),(ID.gf_Pow,(.pure [0] za0)),(ID.gf_Inv,(.pure [0] zcW)),(ID.synd_Scale,(.pure [1] zaL))]) zpc [1] ID.erase_byQ
theorem zs3:za2 Tryz.prog ID.erase_byQ (.pure [1] zcJ):=zam (zaA [znV,zg9,zhP,zs1,zhO]) zbn ⟨Tryz.f138,by kernel_rfl,by kernel_rfl,by kernel_rfl⟩
noncomputable def ztO:Fact Tryz.prog:=⟨ID.erase_byQ,(.pure [1] zcJ),zs3⟩
noncomputable def znX (zce zaO za0 zcW zaL:Zp) (a0 a1:List D) (a2:Int):Option D:=
 zan (zce [.sl .lent a1]) fun r1=>
 zbe r1 fun l2=>
 sif (0+l2.length≤l2.length) <|
 zan (zaO [.sl .lent a0,.sl .lent (cut 0 l2.length l2)]) fun r3=>
 zbe r3 fun l4=>
 zan (za0 [.int .i64 a2]) fun r5=>
 asI .u8 r5 fun i6=>
 zan (zcW [.int .u8 i6]) fun r7=>
 asI .u8 r7 fun i8=>
 sif (0+l4.length≤l4.length) <|
 zan (zaL [.sl .lent (cut 0 l4.length l4),.int .u8 i8]) fun r9=>
 zbe r9 fun l10=>
 sif (l10.length=l10.length) <|
 sif (List.all l10 D.free=true) <|
 some (.sl .own l10)
theorem zy9 (zce zaO za0 zcW zaL:Zp) (tga0 tga1:Tag) (a0 a1:List D) (a2:Int):denP Tryz.prog (zax [(ID.synd_Q,(.pure [1] zce)),(ID.synd_Add,(.pure [1] zaO)),(ID.gf_Pow,(.pure [0] za0)),(ID.gf_Inv,(.pure [0] zcW)),(ID.synd_Scale,(.pure [1] zaL))]) zpc [1] ID.erase_byQ [.sl tga0 a0,.sl tga1 a1,.int .i64 a2]=znX zce zaO za0 zcW zaL (D.lentL a0) (D.lentL a1) a2:=by kernel_rfl
theorem ztP (tga0 tga1:Tag) (a0 a1:List D) (a2:Int):zcJ [.sl tga0 a0,.sl tga1 a1,.int .i64 a2]=znX zce zaO za0 zcW zaL (D.lentL a0) (D.lentL a1) a2:=zy9 zce zaO za0 zcW zaL tga0 tga1 a0 a1 a2
def zlK:Ann:={ loops:=[] }
noncomputable def zcj:Zp:=denP Tryz.prog (zax [(ID.erase_Missing,(.pure [1] zbU)),(ID.erase_fits,(.pure [0] zcq)),(ID.erase_filled,(.pure [1] zb6)),(ID.erase_two,(.pure [1,1] zc1)),(ID.synd_P,(.pure [1] zcd)),(ID.synd_Add,(.pure [1] zaO)),(ID.erase_byQ,(.pure [1] zcJ))]) zlK [1,0] ID.erase_Solve
theorem zp2:za2 Tryz.prog ID.erase_Solve (.pure [1,0] zcj):=zam (zaA [zo3,zsW,zpZ,ztM,znU,zg9,ztO]) zbn ⟨Tryz.f103,by kernel_rfl,by kernel_rfl,by kernel_rfl⟩
noncomputable def zq6:Fact Tryz.prog:=⟨ID.erase_Solve,(.pure [1,0] zcj),zp2⟩
noncomputable def zj2 (zbU zcq zb6 zc1 zcd zaO zcJ:Zp) (a0:Int) (a1 a2 a3:List D):Option D:=
 zan (zbU [.sl .lent a3]) fun r1=>
 zbe r1 fun l2=>
 brK (decide (a0 < 1))
  (some (.tup [.sl .own [],.bool false]))
  (brK (decide ((↑(a3.length):Int) < 1))
   (some (.tup [.sl .own [],.bool false]))
   (brK (decide ((↑(a3.length):Int) > 8))
    (some (.tup [.sl .own [],.bool false]))
    (zan (zcq [.int .i64 a0,.sl .lent a3]) fun r3=>
    asB r3 fun b4=>
    brK (!b4)
     (some (.tup [.sl .own [],.bool false]))
     (zan (zcq [.int .i64 a0,.sl .full [.sl .lent a1,.sl .lent a2]]) fun r5=>
     asB r5 fun b6=>
     brK (!b6)
      (some (.tup [.sl .own [],.bool false]))
      (sif (0+l2.length≤l2.length) <|
      zan (zbU [.sl .full [.sl .lent a1,.sl .lent a2]]) fun r7=>
      zbe r7 fun l8=>
      sif (0+l8.length≤l8.length) <|
      letN (IntKind.i64.wrap ((↑(l2.length):Int)+(↑(l8.length):Int))) fun n9=>
      brK (decide (n9 > 2))
       (some (.tup [.sl .own [],.bool false]))
       (zan (zb6 [.int .i64 a0,.sl .lent a3]) fun r10=>
       zbe r10 fun l11=>
       sif (0+l2.length≤l2.length) <|
       brK ((↑(l2.length):Int) == 2)
        (sif ((0:Nat) < l2.length) <|
        getK l2 ((0:Nat)) fun d12=>
        asI .i64 d12 fun i13=>
        sif ((1:Nat) < l2.length) <|
        getK l2 ((1:Nat)) fun d14=>
        asI .i64 d14 fun i15=>
        sif ((0:Nat) < l2.length) <|
        getK l2 ((0:Nat)) fun d16=>
        asI .i64 d16 fun i17=>
        sif ((1:Nat) < l2.length) <|
        getK l2 ((1:Nat)) fun d18=>
        asI .i64 d18 fun i19=>
        sif (0+l11.length≤l11.length) <|
        zan (zc1 [.sl .lent a1,.sl .lent a2,.sl .lent (cut 0 l11.length l11),.int .i64 i17,.int .i64 i19]) fun r20=>
        zdP r20 fun ts21=>
        zaz ([Lf.any,Lf.any]) ts21 fun c22=>
        zbe c22.1 fun l23=>
        zbe c22.2.1 fun l24=>
        sif (0≤i13) <|
        sif (i13.toNat < l11.length) <|
        sif (0+l23.length≤l23.length) <|
        getK l11 (0+i13.toNat) fun d25=>
        sif (0+l23.length≤l23.length) <|
        sif (D.isAgg d25=false) <|
        sif (0≤i15) <|
        sif (i15.toNat < l11.length) <|
        sif (0+l24.length≤l24.length) <|
        getK (List.set l11 (0+i13.toNat) (.sl .fresh (cut 0 l23.length l23))) (0+i15.toNat) fun d26=>
        sif (0+l24.length≤l24.length) <|
        sif (D.isAgg d26=false) <|
        sif (l11.length=List.length (List.set (List.set l11 (0+i13.toNat) (D.sl .fresh (cut 0 l23.length l23))) (0+i15.toNat) (D.sl .fresh (cut 0 l24.length l24)))) <|
        sif (List.all (List.set (List.set l11 (0+i13.toNat) (D.sl .fresh (cut 0 l23.length l23))) (0+i15.toNat) (D.sl .fresh (cut 0 l24.length l24))) D.free=true) <|
        some (.tup [.sl .own (List.set (List.set l11 (0+i13.toNat) (.sl .fresh (cut 0 l23.length l23))) (0+i15.toNat) (.sl .fresh (cut 0 l24.length l24))),.bool true]))
        (sif (0+l2.length≤l2.length) <|
        brK ((↑(l2.length):Int) == 1)
         (brK (decide ((↑(a1.length):Int) > 0))
          (sif ((0:Nat) < l2.length) <|
          getK l2 ((0:Nat)) fun d27=>
          asI .i64 d27 fun i28=>
          sif (0+l11.length≤l11.length) <|
          zan (zcd [.sl .lent (cut 0 l11.length l11)]) fun r29=>
          zbe r29 fun l30=>
          sif (0+l30.length≤l30.length) <|
          zan (zaO [.sl .lent a1,.sl .lent (cut 0 l30.length l30)]) fun r31=>
          zbe r31 fun l32=>
          sif (0≤i28) <|
          sif (i28.toNat < l11.length) <|
          sif (0+l32.length≤l32.length) <|
          getK l11 (0+i28.toNat) fun d33=>
          sif (0+l32.length≤l32.length) <|
          sif (D.isAgg d33=false) <|
          sif (l11.length=List.length (List.set l11 (0+i28.toNat) (D.sl .fresh (cut 0 l32.length l32)))) <|
          sif (List.all (List.set l11 (0+i28.toNat) (D.sl .fresh (cut 0 l32.length l32))) D.free=true) <|
          some (.tup [.sl .own (List.set l11 (0+i28.toNat) (.sl .fresh (cut 0 l32.length l32))),.bool true]))
          (sif (0+l2.length≤l2.length) <|
          brK ((↑(l2.length):Int) == 1)
           (sif ((0:Nat) < l2.length) <|
           getK l2 ((0:Nat)) fun d34=>
           asI .i64 d34 fun i35=>
           sif ((0:Nat) < l2.length) <|
           getK l2 ((0:Nat)) fun d36=>
           asI .i64 d36 fun i37=>
           sif (0+l11.length≤l11.length) <|
           zan (zcJ [.sl .lent a2,.sl .lent (cut 0 l11.length l11),.int .i64 i37]) fun r38=>
           zbe r38 fun l39=>
           sif (0≤i35) <|
           sif (i35.toNat < l11.length) <|
           sif (0+l39.length≤l39.length) <|
           getK l11 (0+i35.toNat) fun d40=>
           sif (0+l39.length≤l39.length) <|
           sif (D.isAgg d40=false) <|
           sif (l11.length=List.length (List.set l11 (0+i35.toNat) (D.sl .fresh (cut 0 l39.length l39)))) <|
           sif (List.all (List.set l11 (0+i35.toNat) (D.sl .fresh (cut 0 l39.length l39))) D.free=true) <|
           some (.tup [.sl .own (List.set l11 (0+i35.toNat) (.sl .fresh (cut 0 l39.length l39))),.bool true]))
           (sif (l11.length=l11.length) <|
           sif (List.all l11 D.free=true) <|
           some (.tup [.sl .own l11,.bool true]))))
         (sif (0+l2.length≤l2.length) <|
         brK ((↑(l2.length):Int) == 1)
          (sif ((0:Nat) < l2.length) <|
          getK l2 ((0:Nat)) fun d41=>
          asI .i64 d41 fun i42=>
          sif ((0:Nat) < l2.length) <|
          getK l2 ((0:Nat)) fun d43=>
          asI .i64 d43 fun i44=>
          sif (0+l11.length≤l11.length) <|
          zan (zcJ [.sl .lent a2,.sl .lent (cut 0 l11.length l11),.int .i64 i44]) fun r45=>
          zbe r45 fun l46=>
          sif (0≤i42) <|
          sif (i42.toNat < l11.length) <|
          sif (0+l46.length≤l46.length) <|
          getK l11 (0+i42.toNat) fun d47=>
          sif (0+l46.length≤l46.length) <|
          sif (D.isAgg d47=false) <|
          sif (l11.length=List.length (List.set l11 (0+i42.toNat) (D.sl .fresh (cut 0 l46.length l46)))) <|
          sif (List.all (List.set l11 (0+i42.toNat) (D.sl .fresh (cut 0 l46.length l46))) D.free=true) <|
          some (.tup [.sl .own (List.set l11 (0+i42.toNat) (.sl .fresh (cut 0 l46.length l46))),.bool true]))
          (sif (l11.length=l11.length) <|
          sif (List.all l11 D.free=true) <|
          some (.tup [.sl .own l11,.bool true]))))))))))
theorem zv9 (zbU zcq zb6 zc1 zcd zaO zcJ:Zp) (tga1 tga2 tga3:Tag) (a0:Int) (a1 a2 a3:List D):denP Tryz.prog (zax [(ID.erase_Missing,(.pure [1] zbU)),(ID.erase_fits,(.pure [0] zcq)),(ID.erase_filled,(.pure [1] zb6)),(ID.erase_two,(.pure [1,1] zc1)),(ID.synd_P,(.pure [1] zcd)),(ID.synd_Add,(.pure [1] zaO)),(ID.erase_byQ,(.pure [1] zcJ))]) zlK [1,0] ID.erase_Solve [.int .i64 a0,.sl tga1 a1,.sl tga2 a2,.sl tga3 a3]=zj2 zbU zcq zb6 zc1 zcd zaO zcJ a0 (D.lentL a1) (D.lentL a2) (D.lentL a3):=by kernel_rfl
theorem zq7 (tga1 tga2 tga3:Tag) (a0:Int) (a1 a2 a3:List D):zcj [.int .i64 a0,.sl tga1 a1,.sl tga2 a2,.sl tga3 a3]=zj2 zbU zcq zb6 zc1 zcd zaO zcJ a0 (D.lentL a1) (D.lentL a2) (D.lentL a3):=zv9 zbU zcq zb6 zc1 zcd zaO zcJ tga1 tga2 tga3 a0 a1 a2 a3
def zqM:Ann:={ loops:=[(1,.dead::.val (.cell (.int .i64))::.val (.cell .lent)::.box true [(.int .i64),(.int .i64),(.int .i64)]::dd 4 (.own 1::dd 15 [.val (.cell (.int .i64)),.val (.cell (.int .i64))]))] }
noncomputable def zdm:Zp:=denP Tryz.prog (zax [(ID.row_in,(.pure [0] zcV)),(ID.geom_Width,(.pure [0] zae)),(ID.place_Disk,(.pure [0] zaY)),(ID.place_Parity,(.pure [0,0] zaN)),(ID.erase_Solve,(.pure [1,0] zcj))]) zqM [1,0] ID.row_Take
theorem ztQ:za2 Tryz.prog ID.row_Take (.pure [1,0] zdm):=zam (zaA [zsT,zcC,zhI,zf6,zq6]) zbn ⟨Tryz.f55,by kernel_rfl,by kernel_rfl,by kernel_rfl⟩
noncomputable def zwa:Fact Tryz.prog:=⟨ID.row_Take,(.pure [1,0] zdm),ztQ⟩
noncomputable def zp3 (zcV zae zaY zaN zcj:Zp) (a0_0 a0_1 a0_2 a1:Int) (a2:List D):Option D:=
 zan (zcV [.agg [.int .i64 a0_0,.int .i64 a0_1,.int .i64 a0_2],.int .i64 a1]) fun r1=>
 asB r1 fun b2=>
 brK (!b2)
  (some (.tup [.sl .own [],.bool false]))
  (brK ((↑(a2.length):Int) != a0_1)
   (some (.tup [.sl .own [],.bool false]))
   (zan (zae [.agg [.int .i64 a0_0,.int .i64 a0_1,.int .i64 a0_2]]) fun r3=>
   asI .i64 r3 fun i4=>
   zb3 (α:=(Int×List D×(Int×Int×Int×PUnit)×List D×Int×Int×PUnit)×PUnit) (fun again5 ((i6,(l7,((i8,(i9,(i10,_))),(l11,(i12,(i13,_)))))),_)=>
    brK (decide (i13 < i12))
     (zan (zaY [.agg [.int .i64 i8,.int .i64 i9,.int .i64 i10],.int .i64 i6,.int .i64 i13]) fun r14=>
     asI .i64 r14 fun i15=>
     sif (0≤i15) <|
     getK l7 (i15.toNat) fun d16=>
     asSl d16 fun t17 l18=>
     sif (l11.length+1≤4294967296) <|
     sif (l11.length=l11.length) <|
     letN (IntKind.i64.wrap (i13+1)) fun n19=>
     sif (l11.length+1=List.length (l11++[D.sl t17 l18])) <|
     again5 (((i6,l7,(i8,i9,i10,unit),l11++[.sl t17 l18],i12,n19,unit),unit)))
     (zan (zaN [.agg [.int .i64 i8,.int .i64 i9,.int .i64 i10],.int .i64 i6]) fun r20=>
     zdP r20 fun ts21=>
     zaz ([Lf.any,Lf.any]) ts21 fun c22=>
     asI .i64 c22.1 fun i23=>
     asI .i64 c22.2.1 fun i24=>
     brK (decide (i24 < 0))
      (sif (0≤i23) <|
      getK l7 (i23.toNat) fun d25=>
      asSl d25 fun t26 l27=>
      sif (0+l11.length≤l11.length) <|
      zan (zcj [.int .i64 32,.sl t26 l27,.sl .nil [],.sl .lent (cut 0 l11.length l11)]) fun r28=>
      zdP r28 fun ts29=>
      zaz ([Lf.any,Lf.any]) ts29 fun c30=>
      zbe c30.1 fun l31=>
      asB c30.2.1 fun b32=>
      sif (l31.length=l31.length) <|
      sif (List.all l31 D.free=true) <|
      some (.tup [.sl .own l31,.bool b32]))
      (sif (0≤i23) <|
      getK l7 (i23.toNat) fun d33=>
      asSl d33 fun t34 l35=>
      sif (0≤i24) <|
      getK l7 (i24.toNat) fun d36=>
      asSl d36 fun t37 l38=>
      sif (0+l11.length≤l11.length) <|
      zan (zcj [.int .i64 32,.sl t34 l35,.sl t37 l38,.sl .lent (cut 0 l11.length l11)]) fun r39=>
      zdP r39 fun ts40=>
      zaz ([Lf.any,Lf.any]) ts40 fun c41=>
      zbe c41.1 fun l42=>
      asB c41.2.1 fun b43=>
      sif (l42.length=l42.length) <|
      sif (List.all l42 D.free=true) <|
      some (.tup [.sl .own l42,.bool b43]))))
    (((a1,a2,(a0_0,a0_1,a0_2,unit),[],i4,(0:Int),unit),unit))))
theorem zBb (zcV zae zaY zaN zcj:Zp) (tga2:Tag) (a0_0 a0_1 a0_2 a1:Int) (a2:List D):denP Tryz.prog (zax [(ID.row_in,(.pure [0] zcV)),(ID.geom_Width,(.pure [0] zae)),(ID.place_Disk,(.pure [0] zaY)),(ID.place_Parity,(.pure [0,0] zaN)),(ID.erase_Solve,(.pure [1,0] zcj))]) zqM [1,0] ID.row_Take [.agg [.int .i64 a0_0,.int .i64 a0_1,.int .i64 a0_2],.int .i64 a1,.sl tga2 a2]=zp3 zcV zae zaY zaN zcj a0_0 a0_1 a0_2 a1 (D.lentL a2):=by kernel_rfl
theorem zwb (tga2:Tag) (a0_0 a0_1 a0_2 a1:Int) (a2:List D):zdm [.agg [.int .i64 a0_0,.int .i64 a0_1,.int .i64 a0_2],.int .i64 a1,.sl tga2 a2]=zp3 zcV zae zaY zaN zcj a0_0 a0_1 a0_2 a1 (D.lentL a2):=zBb zcV zae zaY zaN zcj tga2 a0_0 a0_1 a0_2 a1 a2
def zlL:Ann:={ loops:=[(1,.val (.cell (.hnd (2496:Nat)))::.val (.cell .lent)::.dead::.val (.cell (.int .i64))::dd 2 (.box true [(.int .i64),(.int .i64),(.int .i64)]::dd 3 (.own 1::dd 20 [.val (.cell (.int .i64)),.val (.cell (.int .i64))])))],ks:=[(2496,false),(8225,false)] }
noncomputable def zck:Zs:=denS Tryz.prog (zax [(ID.geom_Check,(.pure [0] zao)),(ID.stripe_up,(.st [] [0] [(2496,false),(8225,false)] zaT)),(ID.bench_Bench_Read,(.st [] [1,0] [(2496,false),(8225,false)] zaw)),(ID.row_Take,(.pure [1,0] zdm))]) zlL [1,0] ID.stripe_Read
theorem zp4:za2 Tryz.prog ID.stripe_Read (.st [] [1,0] [(2496,false),(8225,false)] zck):=zbg (zaA [zdG,zgh,zek,zwa]) zbn ⟨Tryz.f37,by kernel_rfl,by kernel_rfl,by kernel_rfl⟩
noncomputable def zq8:Fact Tryz.prog:=⟨ID.stripe_Read,(.st [] [1,0] [(2496,false),(8225,false)] zck),zp4⟩
noncomputable def zj3 (zao:Zp) (zaT zaw:Zs) (zdm:Zp) (a0:Nat) (a1:List D) (a2_0 a2_1 a2_2 a3:Int) (T0 T1:Tb):Option Ans:=
 zan (zao [.agg [.int .i64 a2_0,.int .i64 a2_1,.int .i64 a2_2]]) fun r1=>
 asI .i64 r1 fun i2=>
 brK (i2 != 0)
  (some (Ans.mk (.tup [.sl .own [],.int .i64 1]) [] []))
  (brK (decide (a3 < 0))
   (some (Ans.mk (.tup [.sl .own [],.int .i64 1]) [] []))
   (brK (decide (a3≥16))
    (some (Ans.mk (.tup [.sl .own [],.int .i64 1]) [] []))
    (sif (0≤a2_1) <|
    sif (a2_1=a2_1) <|
    sif (a2_1*24≤140737488355328) <|
    sif (a2_1≤140737488355328) <|
    sif (0+a2_1.toNat≤List.length (List.replicate (a2_1.toNat) (D.sl .nil []))) <|
    sif (a2_1.toNat=List.length (List.replicate (a2_1.toNat) (D.sl .nil []))) <|
    zb3 (α:=(Nat×List D×Int×(Int×Int×Int×PUnit)×List D×Int×Int×PUnit)×List (List D)×List (List D)×PUnit) (fun again3 ((x4,(l5,(i6,((i7,(i8,(i9,_))),(l10,(i11,(i12,_))))))),(U13,(U14,_)))=>
     brK (decide (i12 < i11))
      (zan (zaT [.h (2496) x4 (0:Nat),.sl .lent l5,.int .i64 i12] [U13,U14]) fun r15=>
      nilK r15.outs <|
      nilK r15.tbs <|
      asB r15.r fun b16=>
      brK (!b16)
       (letN (IntKind.i64.wrap (i12+1)) fun n17=>
       sif (l10.length=l10.length) <|
       again3 (((x4,l5,i6,(i7,i8,i9,unit),l10,i11,n17,unit),U13,U14,unit)))
       (letN (IntKind.i64.wrap (36+i6)) fun n18=>
       zan (zaw [.h (2496) x4 (0:Nat),.int .i64 i12,.int .i64 n18] [U13,U14]) fun r19=>
       nilK r19.outs <|
       nilK r19.tbs <|
       zdP r19.r fun ts20=>
       zaz ([Lf.any,Lf.any]) ts20 fun c21=>
       zbe c21.1 fun l22=>
       asI .i64 c21.2.1 fun i23=>
       brK (i23 != 0)
        (some (Ans.mk (.tup [.sl .own [],.int .i64 i23]) [] []))
        (sif (0≤i12) <|
        sif (i12.toNat < l10.length) <|
        sif (0+l22.length≤l22.length) <|
        getK l10 (0+i12.toNat) fun d24=>
        sif (0+l22.length≤l22.length) <|
        sif (D.isAgg d24=false) <|
        letN (IntKind.i64.wrap (i12+1)) fun n25=>
        sif (l10.length=List.length (List.set l10 (0+i12.toNat) (D.sl .fresh (cut 0 l22.length l22)))) <|
        again3 (((x4,l5,i6,(i7,i8,i9,unit),List.set l10 (0+i12.toNat) (.sl .fresh (cut 0 l22.length l22)),i11,n25,unit),U13,U14,unit)))))
      (sif (0+l10.length≤l10.length) <|
      zan (zdm [.agg [.int .i64 i7,.int .i64 i8,.int .i64 i9],.int .i64 i6,.sl .lent (cut 0 l10.length l10)]) fun r26=>
      zdP r26 fun ts27=>
      zaz ([Lf.any,Lf.any]) ts27 fun c28=>
      zbe c28.1 fun l29=>
      asB c28.2.1 fun b30=>
      brK (!b30)
       (some (Ans.mk (.tup [.sl .own [],.int .i64 7]) [] []))
       (sif (l29.length=l29.length) <|
       sif (List.all l29 D.free=true) <|
       some (Ans.mk (.tup [.sl .own l29,.int .i64 0]) [] []))))
     (((a0,a1,a3,(a2_0,a2_1,a2_2,unit),List.replicate (a2_1.toNat) (.sl .nil []),(↑(a2_1.toNat):Int),(0:Int),unit),T0,T1,unit)))))
theorem zwc (zao:Zp) (zaT zaw:Zs) (zdm:Zp) (tga1:Tag) (a0:Nat) (a1:List D) (a2_0 a2_1 a2_2 a3:Int) (T0 T1:Tb):denS Tryz.prog (zax [(ID.geom_Check,(.pure [0] zao)),(ID.stripe_up,(.st [] [0] [(2496,false),(8225,false)] zaT)),(ID.bench_Bench_Read,(.st [] [1,0] [(2496,false),(8225,false)] zaw)),(ID.row_Take,(.pure [1,0] zdm))]) zlL [1,0] ID.stripe_Read [.h 2496 a0 0,.sl tga1 a1,.agg [.int .i64 a2_0,.int .i64 a2_1,.int .i64 a2_2],.int .i64 a3] [T0,T1]=zj3 zao zaT zaw zdm a0 (D.lentL a1) a2_0 a2_1 a2_2 a3 T0 T1:=by kernel_rfl
theorem zq9 (tga1:Tag) (a0:Nat) (a1:List D) (a2_0 a2_1 a2_2 a3:Int) (T0 T1:Tb):zck [.h 2496 a0 0,.sl tga1 a1,.agg [.int .i64 a2_0,.int .i64 a2_1,.int .i64 a2_2],.int .i64 a3] [T0,T1]=zj3 zao zaT zaw zdm a0 (D.lentL a1) a2_0 a2_1 a2_2 a3 T0 T1:=zwc zao zaT zaw zdm tga1 a0 a1 a2_0 a2_1 a2_2 a3 T0 T1
def zkk:Ann:={ loops:=[] }
noncomputable def zcg:Zp:=denP Tryz.prog (zax [(ID.geom_Width,(.pure [0] zae))]) zkk [0] ID.place_number
theorem zpd:za2 Tryz.prog ID.place_number (.pure [0] zcg):=zam (zaA [zcC]) zbn ⟨Tryz.f112,by kernel_rfl,by kernel_rfl,by kernel_rfl⟩
noncomputable def zp5:Fact Tryz.prog:=⟨ID.place_number,(.pure [0] zcg),zpd⟩
noncomputable def ziz (zae:Zp) (a0_0 a0_1 a0_2 a1 a2:Int):Option D:=
 sif (a0_2≠0) <|
 letN (IntKind.i64.wrap (Int.tdiv a1 a0_2)) fun n1=>
 zan (zae [.agg [.int .i64 a0_0,.int .i64 a0_1,.int .i64 a0_2]]) fun r2=>
 asI .i64 r2 fun i3=>
 letN (IntKind.i64.wrap (n1*i3)) fun n4=>
 letN (IntKind.i64.wrap (n4+a2)) fun n5=>
 letN (IntKind.i64.wrap (n5*a0_2)) fun n6=>
 sif (a0_2≠0) <|
 letN (Int.tmod a1 a0_2) fun n7=>
 letN (IntKind.i64.wrap (n6+n7)) fun n8=>
 some (.int .i64 n8)
theorem ztR (zae:Zp) (a0_0 a0_1 a0_2 a1 a2:Int):denP Tryz.prog (zax [(ID.geom_Width,(.pure [0] zae))]) zkk [0] ID.place_number [.agg [.int .i64 a0_0,.int .i64 a0_1,.int .i64 a0_2],.int .i64 a1,.int .i64 a2]=ziz zae a0_0 a0_1 a0_2 a1 a2:=by kernel_rfl
theorem zp6 (a0_0 a0_1 a0_2 a1 a2:Int):zcg [.agg [.int .i64 a0_0,.int .i64 a0_1,.int .i64 a0_2],.int .i64 a1,.int .i64 a2]=ziz zae a0_0 a0_1 a0_2 a1 a2:=ztR zae a0_0 a0_1 a0_2 a1 a2
def zjl:Ann:={ loops:=[(1,.dead::.val (.cell (.int .i64))::.box true [(.int .i64),(.int .i64),(.int .i64)]::dd 2 (.own 1::dd 6 [.val (.cell (.int .i64)),.val (.cell (.int .i64))]))] }
noncomputable def za1:Zp:=denP Tryz.prog (zax [(ID.place_in,(.pure [0] zbz)),(ID.geom_Width,(.pure [0] zae)),(ID.place_number,(.pure [0] zcg))]) zjl [1] ID.place_Numbers
theorem znY:za2 Tryz.prog ID.place_Numbers (.pure [1] za1):=zam (zaA [zjX,zcC,zp5]) zbn ⟨Tryz.f65,by kernel_rfl,by kernel_rfl,by kernel_rfl⟩
noncomputable def zif:Fact Tryz.prog:=⟨ID.place_Numbers,(.pure [1] za1),znY⟩
noncomputable def zhQ (zbz zae zcg:Zp) (a0_0 a0_1 a0_2 a1:Int):Option D:=
 zan (zbz [.agg [.int .i64 a0_0,.int .i64 a0_1,.int .i64 a0_2],.int .i64 a1]) fun r1=>
 asB r1 fun b2=>
 brK (!b2)
  (some (.sl .own []))
  (zan (zae [.agg [.int .i64 a0_0,.int .i64 a0_1,.int .i64 a0_2]]) fun r3=>
  asI .i64 r3 fun i4=>
  zb3 (α:=(Int×(Int×Int×Int×PUnit)×List D×Int×Int×PUnit)×PUnit) (fun again5 ((i6,((i7,(i8,(i9,_))),(l10,(i11,(i12,_))))),_)=>
   brK (decide (i12 < i11))
    (zan (zcg [.agg [.int .i64 i7,.int .i64 i8,.int .i64 i9],.int .i64 i6,.int .i64 i12]) fun r13=>
    asI .i64 r13 fun i14=>
    sif (l10.length+1≤4294967296) <|
    sif (l10.length=l10.length) <|
    letN (IntKind.i64.wrap (i12+1)) fun n15=>
    sif (l10.length+1=List.length (l10++[D.int .i64 i14])) <|
    again5 (((i6,(i7,i8,i9,unit),l10++[.int .i64 i14],i11,n15,unit),unit)))
    (sif (l10.length=l10.length) <|
    sif (List.all l10 D.free=true) <|
    some (.sl .own l10)))
   (((a1,(a0_0,a0_1,a0_2,unit),[],i4,(0:Int),unit),unit)))
theorem zs4 (zbz zae zcg:Zp) (a0_0 a0_1 a0_2 a1:Int):denP Tryz.prog (zax [(ID.place_in,(.pure [0] zbz)),(ID.geom_Width,(.pure [0] zae)),(ID.place_number,(.pure [0] zcg))]) zjl [1] ID.place_Numbers [.agg [.int .i64 a0_0,.int .i64 a0_1,.int .i64 a0_2],.int .i64 a1]=zhQ zbz zae zcg a0_0 a0_1 a0_2 a1:=by kernel_rfl
theorem zpe (a0_0 a0_1 a0_2 a1:Int):za1 [.agg [.int .i64 a0_0,.int .i64 a0_1,.int .i64 a0_2],.int .i64 a1]=zhQ zbz zae zcg a0_0 a0_1 a0_2 a1:=zs4 zbz zae zcg a0_0 a0_1 a0_2 a1
def zna:Ann:={ loops:=[(3,dd 3 (.val (.cell (.int .i64))::dd 9 (.own 1::dd 36 [.own 1,.val (.cell (.int .i64)),.val (.cell (.int .i64))])))],ks:=[(2496,false),(8225,false)] }
noncomputable def zcF:Zs:=denS Tryz.prog (zax [(ID.place_Of,(.pure [0,0,0] zc9)),(ID.stripe_up,(.st [] [0] [(2496,false),(8225,false)] zaT)),(ID.bench_Bench_Read,(.st [] [1,0] [(2496,false),(8225,false)] zaw)),(ID.stripe_Read,(.st [] [1,0] [(2496,false),(8225,false)] zck)),(ID.place_Numbers,(.pure [1] za1))]) zna [0,0] ID.stripe_One
theorem zra:za2 Tryz.prog ID.stripe_One (.st [] [0,0] [(2496,false),(8225,false)] zcF):=zbg (zaA [zvX,zgh,zek,zq8,zif]) zbn ⟨Tryz.f28,by kernel_rfl,by kernel_rfl,by kernel_rfl⟩
noncomputable def zs5:Fact Tryz.prog:=⟨ID.stripe_One,(.st [] [0,0] [(2496,false),(8225,false)] zcF),zra⟩
noncomputable def zlM (zc9:Zp) (zaT zaw zck:Zs) (za1:Zp) (a0:Nat) (a1:List D) (a2_0 a2_1 a2_2 a3:Int) (T0 T1:Tb):Option Ans:=
 zan (zc9 [.agg [.int .i64 a2_0,.int .i64 a2_1,.int .i64 a2_2],.int .i64 a3]) fun r1=>
 zdP r1 fun ts2=>
 zaz ([Lf.any,Lf.any,Lf.any]) ts2 fun c3=>
 asI .i64 c3.1 fun i4=>
 asI .i64 c3.2.1 fun i5=>
 asB c3.2.2.1 fun b6=>
 brK (!b6)
  (some (Ans.mk (.tup [.sl .nil [],.int .i64 4]) [] []))
  (zan (zaT [.h 2496 a0 0,.sl .lent a1,.int .i64 i4] [T0,T1]) fun r7=>
  nilK r7.outs <|
  nilK r7.tbs <|
  asB r7.r fun b8=>
  brK b8
   (letN (IntKind.i64.wrap (36+i5)) fun n9=>
   zan (zaw [.h 2496 a0 0,.int .i64 i4,.int .i64 n9] [T0,T1]) fun r10=>
   nilK r10.outs <|
   nilK r10.tbs <|
   zdP r10.r fun ts11=>
   zaz ([Lf.any,Lf.any]) ts11 fun c12=>
   zbe c12.1 fun l13=>
   asI .i64 c12.2.1 fun i14=>
   sif (0+l13.length≤l13.length) <|
   sif (D.free (D.sl .fresh (cut 0 l13.length l13))=true) <|
   some (Ans.mk (.tup [.sl .fresh (cut 0 l13.length l13),.int .i64 i14]) [] []))
   (zan (zck [.h 2496 a0 0,.sl .lent a1,.agg [.int .i64 a2_0,.int .i64 a2_1,.int .i64 a2_2],.int .i64 i5] [T0,T1]) fun r15=>
   nilK r15.outs <|
   nilK r15.tbs <|
   zdP r15.r fun ts16=>
   zaz ([Lf.any,Lf.any]) ts16 fun c17=>
   zbe c17.1 fun l18=>
   asI .i64 c17.2.1 fun i19=>
   brK (i19 != 0)
    (some (Ans.mk (.tup [.sl .nil [],.int .i64 i19]) [] []))
    (zan (za1 [.agg [.int .i64 a2_0,.int .i64 a2_1,.int .i64 a2_2],.int .i64 i5]) fun r20=>
    zbe r20 fun l21=>
    sif (0+l21.length≤l21.length) <|
    sif (l18.length=l18.length) <|
    sif (l21.length=l21.length) <|
    zb3 (α:=(Int×List D×List D×Int×Int×PUnit)×List (List D)×List (List D)×PUnit) (fun again22 ((i23,(l24,(l25,(i26,(i27,_))))),(U28,(U29,_)))=>
     brK (decide (i27 < i26))
      (sif (0≤i27) <|
      sif (i27.toNat < l25.length) <|
      getK l25 (0+i27.toNat) fun d30=>
      asI .i64 d30 fun i31=>
      brK (i31 == i23)
       (sif (0≤i27) <|
       sif (i27.toNat < l24.length) <|
       getK l24 (0+i27.toNat) fun d32=>
       asSl d32 fun t33 l34=>
       sif (D.free (D.sl t33 l34)=true) <|
       some (Ans.mk (.tup [.sl t33 l34,.int .i64 0]) [] []))
       (letN (IntKind.i64.wrap (i27+1)) fun n35=>
       sif (l24.length=l24.length) <|
       sif (l25.length=l25.length) <|
       again22 (((i23,l24,l25,i26,n35,unit),U28,U29,unit))))
      (some (Ans.mk (.tup [.sl .nil [],.int .i64 4]) [] [])))
     (((a3,l18,l21,(↑(l21.length):Int),(0:Int),unit),T0,T1,unit)))))
theorem zxQ (zc9:Zp) (zaT zaw zck:Zs) (za1:Zp) (tga1:Tag) (a0:Nat) (a1:List D) (a2_0 a2_1 a2_2 a3:Int) (T0 T1:Tb):denS Tryz.prog (zax [(ID.place_Of,(.pure [0,0,0] zc9)),(ID.stripe_up,(.st [] [0] [(2496,false),(8225,false)] zaT)),(ID.bench_Bench_Read,(.st [] [1,0] [(2496,false),(8225,false)] zaw)),(ID.stripe_Read,(.st [] [1,0] [(2496,false),(8225,false)] zck)),(ID.place_Numbers,(.pure [1] za1))]) zna [0,0] ID.stripe_One [.h 2496 a0 0,.sl tga1 a1,.agg [.int .i64 a2_0,.int .i64 a2_1,.int .i64 a2_2],.int .i64 a3] [T0,T1]=zlM zc9 zaT zaw zck za1 a0 (D.lentL a1) a2_0 a2_1 a2_2 a3 T0 T1:=by kernel_rfl
theorem zs6 (tga1:Tag) (a0:Nat) (a1:List D) (a2_0 a2_1 a2_2 a3:Int) (T0 T1:Tb):zcF [.h 2496 a0 0,.sl tga1 a1,.agg [.int .i64 a2_0,.int .i64 a2_1,.int .i64 a2_2],.int .i64 a3] [T0,T1]=zlM zc9 zaT zaw zck za1 a0 (D.lentL a1) a2_0 a2_1 a2_2 a3 T0 T1:=zxQ zc9 zaT zaw zck za1 tga1 a0 a1 a2_0 a2_1 a2_2 a3 T0 T1
def zlN:Ann:={ loops:=[(1,.val (.cell (.hnd (2496:Nat)))::.val (.cell .lent)::dd 5 (.box true [(.int .i64),(.int .i64),(.int .i64)]::dd 4 [.own 1,.dead,.val (.cell (.int .i64)),.val (.cell (.int .i64))]))],ks:=[(2496,false),(8225,false)] }
noncomputable def zbh:Zs:=denS Tryz.prog (zax [(ID.window_may,(.pure [0] zbK)),(ID.plan_Span,(.pure [0,0] zbV)),(ID.geom_Capacity,(.pure [0] zaW)),(ID.stripe_One,(.st [] [0,0] [(2496,false),(8225,false)] zcF))]) zlN [1,0] ID.window_Read
theorem zp7:za2 Tryz.prog ID.window_Read (.st [] [1,0] [(2496,false),(8225,false)] zbh):=zbg (zaA [zly,zm6,zid,zs5]) zbn ⟨Tryz.f40,by kernel_rfl,by kernel_rfl,by kernel_rfl⟩
noncomputable def zkl:Fact Tryz.prog:=⟨ID.window_Read,(.st [] [1,0] [(2496,false),(8225,false)] zbh),zp7⟩
noncomputable def zj4 (zbK zbV zaW:Zp) (zcF:Zs) (a0:Nat) (a1:List D) (a2_0 a2_1 a2_2 a3_0 a3_1 a3_2 a4:Int) (T0 T1:Tb):Option Ans:=
 zan (zbK [.agg [.int .i64 a2_0,.int .i64 a2_1,.int .i64 a2_2],.agg [.int .i64 a3_0,.int .i64 a3_1,.int .i64 a3_2],.int .i64 a4]) fun r1=>
 asB r1 fun b2=>
 brK (!b2)
  (some (Ans.mk (.tup [.sl .own [],.int .i64 1]) [] []))
  (zan (zbV [.agg [.int .i64 a2_0,.int .i64 a2_1,.int .i64 a2_2],.agg [.int .i64 a3_0,.int .i64 a3_1,.int .i64 a3_2],.int .i64 a4]) fun r3=>
  zdP r3 fun ts4=>
  zaz ([Lf.any,Lf.any]) ts4 fun c5=>
  asI .i64 c5.1 fun i6=>
  asI .i64 c5.2.1 fun i7=>
  zb3 (α:=(Nat×List D×(Int×Int×Int×PUnit)×List D×Int×Int×PUnit)×List (List D)×List (List D)×PUnit) (fun again8 ((x9,(l10,((i11,(i12,(i13,_))),(l14,(i15,(i16,_)))))),(U17,(U18,_)))=>
   brK (decide (i16 < i15))
    (zan (zaW [.agg [.int .i64 i11,.int .i64 i12,.int .i64 i13]]) fun r19=>
    asI .i64 r19 fun i20=>
    brK (decide (i16≥i20))
     (sif (l14.length+1≤4294967296) <|
     sif (l14.length=l14.length) <|
     letN (IntKind.i64.wrap (i16+1)) fun n21=>
     sif (l14.length+1=List.length (l14++[D.sl .fresh [D.int .u8 0,D.int .u8 0,D.int .u8 0,D.int .u8 0,D.int .u8 0,D.int .u8 0,D.int .u8 0,D.int .u8 0,D.int .u8 0,D.int .u8 0,D.int .u8 0,D.int .u8 0,D.int .u8 0,D.int .u8 0,D.int .u8 0,D.int .u8 0,D.int .u8 0,D.int .u8 0,D.int .u8 0,D.int .u8 0,D.int .u8 0,D.int .u8 0,D.int .u8 0,D.int .u8 0,D.int .u8 0,D.int .u8 0,D.int .u8 0,D.int .u8 0,D.int .u8 0,D.int .u8 0,D.int .u8 0,D.int .u8 0]])) <|
     again8 (((x9,l10,(i11,i12,i13,unit),l14++[.sl .fresh [.int .u8 0,.int .u8 0,.int .u8 0,.int .u8 0,.int .u8 0,.int .u8 0,.int .u8 0,.int .u8 0,.int .u8 0,.int .u8 0,.int .u8 0,.int .u8 0,.int .u8 0,.int .u8 0,.int .u8 0,.int .u8 0,.int .u8 0,.int .u8 0,.int .u8 0,.int .u8 0,.int .u8 0,.int .u8 0,.int .u8 0,.int .u8 0,.int .u8 0,.int .u8 0,.int .u8 0,.int .u8 0,.int .u8 0,.int .u8 0,.int .u8 0,.int .u8 0]],i15,n21,unit),U17,U18,unit)))
     (zan (zcF [.h (2496) x9 (0:Nat),.sl .lent l10,.agg [.int .i64 i11,.int .i64 i12,.int .i64 i13],.int .i64 i16] [U17,U18]) fun r22=>
     nilK r22.outs <|
     nilK r22.tbs <|
     zdP r22.r fun ts23=>
     zaz ([Lf.any,Lf.any]) ts23 fun c24=>
     asSl c24.1 fun t25 l26=>
     sif (zhs (D.sl t25 l26)=true) <|
     asI .i64 c24.2.1 fun i27=>
     brK (i27 != 0)
      (some (Ans.mk (.tup [.sl .own [],.int .i64 i27]) [] []))
      (sif (l14.length+1≤4294967296) <|
      sif (l14.length=l14.length) <|
      letN (IntKind.i64.wrap (i16+1)) fun n28=>
      sif (l14.length+1=List.length (l14++[D.sl t25 l26])) <|
      again8 (((x9,l10,(i11,i12,i13,unit),l14++[.sl t25 l26],i15,n28,unit),U17,U18,unit)))))
    (sif (l14.length=l14.length) <|
    sif (List.all l14 D.free=true) <|
    some (Ans.mk (.tup [.sl .own l14,.int .i64 0]) [] [])))
   (((a0,a1,(a2_0,a2_1,a2_2,unit),[],i7,i6,unit),T0,T1,unit)))
theorem zwd (zbK zbV zaW:Zp) (zcF:Zs) (tga1:Tag) (a0:Nat) (a1:List D) (a2_0 a2_1 a2_2 a3_0 a3_1 a3_2 a4:Int) (T0 T1:Tb):denS Tryz.prog (zax [(ID.window_may,(.pure [0] zbK)),(ID.plan_Span,(.pure [0,0] zbV)),(ID.geom_Capacity,(.pure [0] zaW)),(ID.stripe_One,(.st [] [0,0] [(2496,false),(8225,false)] zcF))]) zlN [1,0] ID.window_Read [.h 2496 a0 0,.sl tga1 a1,.agg [.int .i64 a2_0,.int .i64 a2_1,.int .i64 a2_2],.agg [.int .i64 a3_0,.int .i64 a3_1,.int .i64 a3_2],.int .i64 a4] [T0,T1]=zj4 zbK zbV zaW zcF a0 (D.lentL a1) a2_0 a2_1 a2_2 a3_0 a3_1 a3_2 a4 T0 T1:=by kernel_rfl
theorem zrb (tga1:Tag) (a0:Nat) (a1:List D) (a2_0 a2_1 a2_2 a3_0 a3_1 a3_2 a4:Int) (T0 T1:Tb):zbh [.h 2496 a0 0,.sl tga1 a1,.agg [.int .i64 a2_0,.int .i64 a2_1,.int .i64 a2_2],.agg [.int .i64 a3_0,.int .i64 a3_1,.int .i64 a3_2],.int .i64 a4] [T0,T1]=zj4 zbK zbV zaW zcF a0 (D.lentL a1) a2_0 a2_1 a2_2 a3_0 a3_1 a3_2 a4 T0 T1:=zwd zbK zbV zaW zcF tga1 a0 a1 a2_0 a2_1 a2_2 a3_0 a3_1 a3_2 a4 T0 T1
def zlO:Ann:={ loops:=[] }
noncomputable def zct:Zp:=denP Tryz.prog (zax [(ID.slices_ContainsFunc_byte_byte,(.pure [0] zag)),(ID.row_sectors_1,(.pure [0] zav))]) zlO [0] ID.row_sectors
theorem zp8:za2 Tryz.prog ID.row_sectors (.pure [0] zct):=zam (zaA [zdh,zfC]) zbn ⟨Tryz.f104,by kernel_rfl,by kernel_rfl,by kernel_rfl⟩
noncomputable def zrc:Fact Tryz.prog:=⟨ID.row_sectors,(.pure [0] zct),zp8⟩
noncomputable def zj5 (zag zav:Zp) (a0:List D):Option D:=
 zan (zag [.sl .lent a0,.fn (139:Nat) [] []]) fun r1=>
 asB r1 fun b2=>
 some (.bool !b2)
theorem zwe (zag zav:Zp) (tga0:Tag) (a0:List D):denP Tryz.prog (zax [(ID.slices_ContainsFunc_byte_byte,(.pure [0] zag)),(ID.row_sectors_1,(.pure [0] zav))]) zlO [0] ID.row_sectors [.sl tga0 a0]=zj5 zag zav (D.lentL a0):=by kernel_rfl
theorem zrd (tga0:Tag) (a0:List D):zct [.sl tga0 a0]=zj5 zag zav (D.lentL a0):=zwe zag zav tga0 a0
def zqN:Ann:={ loops:=[(1,.dead::.val (.cell (.int .i64))::.val (.cell .lent)::.box true [(.int .i64),(.int .i64),(.int .i64)]::dd 4 (.own 1::dd 23 [.val (.cell .lent),.val (.cell (.int .i64)),.val (.cell (.int .i64))]))] }
noncomputable def zdn:Zp:=denP Tryz.prog (zax [(ID.row_in,(.pure [0] zcV)),(ID.geom_Width,(.pure [0] zae)),(ID.row_sectors,(.pure [0] zct)),(ID.place_Disk,(.pure [0] zaY)),(ID.slices_Clone_byte_byte,(.pure [1] zar)),(ID.place_Parity,(.pure [0,0] zaN)),(ID.synd_P,(.pure [1] zcd)),(ID.synd_Q,(.pure [1] zce))]) zqN [1,0] ID.row_Fill
theorem ztS:za2 Tryz.prog ID.row_Fill (.pure [1,0] zdn):=zam (zaA [zsT,zcC,zrc,zhI,zej,zf6,znU,znV]) zbn ⟨Tryz.f56,by kernel_rfl,by kernel_rfl,by kernel_rfl⟩
noncomputable def zwf:Fact Tryz.prog:=⟨ID.row_Fill,(.pure [1,0] zdn),ztS⟩
noncomputable def zp9 (zcV zae zct zaY zar zaN zcd zce:Zp) (a0_0 a0_1 a0_2 a1:Int) (a2:List D):Option D:=
 zan (zcV [.agg [.int .i64 a0_0,.int .i64 a0_1,.int .i64 a0_2],.int .i64 a1]) fun r1=>
 asB r1 fun b2=>
 brK (!b2)
  (some (.tup [.sl .own [],.bool false]))
  (zan (zae [.agg [.int .i64 a0_0,.int .i64 a0_1,.int .i64 a0_2]]) fun r3=>
  asI .i64 r3 fun i4=>
  brK ((↑(a2.length):Int) != i4)
   (some (.tup [.sl .own [],.bool false]))
   (zan (zct [.sl .lent a2]) fun r5=>
   asB r5 fun b6=>
   brK (!b6)
    (some (.tup [.sl .own [],.bool false]))
    (sif (0≤a0_1) <|
    sif (a0_1=a0_1) <|
    sif (a0_1*24≤140737488355328) <|
    sif (a0_1≤140737488355328) <|
    sif (a0_1.toNat=List.length (List.replicate (a0_1.toNat) (D.sl .nil []))) <|
    zb3 (α:=(Int×List D×(Int×Int×Int×PUnit)×List D×List D×Int×Int×PUnit)×PUnit) (fun again7 ((i8,(l9,((i10,(i11,(i12,_))),(l13,(l14,(i15,(i16,_))))))),_)=>
     brK (decide (i16 < i15))
      (sif (0≤i16) <|
      getK l14 (i16.toNat) fun d17=>
      asSl d17 fun t18 l19=>
      zan (zaY [.agg [.int .i64 i10,.int .i64 i11,.int .i64 i12],.int .i64 i8,.int .i64 i16]) fun r20=>
      asI .i64 r20 fun i21=>
      zan (zar [.sl t18 l19]) fun r22=>
      zbe r22 fun l23=>
      sif (0≤i21) <|
      sif (i21.toNat < l13.length) <|
      sif (0+l23.length≤l23.length) <|
      getK l13 (0+i21.toNat) fun d24=>
      sif (0+l23.length≤l23.length) <|
      sif (D.isAgg d24=false) <|
      letN (IntKind.i64.wrap (i16+1)) fun n25=>
      sif (l13.length=List.length (List.set l13 (0+i21.toNat) (D.sl .fresh (cut 0 l23.length l23)))) <|
      again7 (((i8,l9,(i10,i11,i12,unit),List.set l13 (0+i21.toNat) (.sl .fresh (cut 0 l23.length l23)),l14,i15,n25,unit),unit)))
      (zan (zaN [.agg [.int .i64 i10,.int .i64 i11,.int .i64 i12],.int .i64 i8]) fun r26=>
      zdP r26 fun ts27=>
      zaz ([Lf.any,Lf.any]) ts27 fun c28=>
      asI .i64 c28.1 fun i29=>
      asI .i64 c28.2.1 fun i30=>
      zan (zcd [.sl .lent l9]) fun r31=>
      zbe r31 fun l32=>
      sif (0≤i29) <|
      sif (i29.toNat < l13.length) <|
      sif (0+l32.length≤l32.length) <|
      getK l13 (0+i29.toNat) fun d33=>
      sif (0+l32.length≤l32.length) <|
      sif (D.isAgg d33=false) <|
      brK (decide (i30≥0))
       (zan (zce [.sl .lent l9]) fun r34=>
       zbe r34 fun l35=>
       sif (0≤i30) <|
       sif (i30.toNat < l13.length) <|
       sif (0+l35.length≤l35.length) <|
       getK (List.set l13 (0+i29.toNat) (.sl .fresh (cut 0 l32.length l32))) (0+i30.toNat) fun d36=>
       sif (0+l35.length≤l35.length) <|
       sif (D.isAgg d36=false) <|
       sif (l13.length=List.length (List.set (List.set l13 (0+i29.toNat) (D.sl .fresh (cut 0 l32.length l32))) (0+i30.toNat) (D.sl .fresh (cut 0 l35.length l35)))) <|
       sif (List.all (List.set (List.set l13 (0+i29.toNat) (D.sl .fresh (cut 0 l32.length l32))) (0+i30.toNat) (D.sl .fresh (cut 0 l35.length l35))) D.free=true) <|
       some (.tup [.sl .own (List.set (List.set l13 (0+i29.toNat) (.sl .fresh (cut 0 l32.length l32))) (0+i30.toNat) (.sl .fresh (cut 0 l35.length l35))),.bool true]))
       (sif (l13.length=List.length (List.set l13 (0+i29.toNat) (.sl .fresh (cut 0 l32.length l32)))) <|
       sif (List.all (List.set l13 (0+i29.toNat) (D.sl .fresh (cut 0 l32.length l32))) D.free=true) <|
       some (.tup [.sl .own (List.set l13 (0+i29.toNat) (.sl .fresh (cut 0 l32.length l32))),.bool true]))))
     (((a1,a2,(a0_0,a0_1,a0_2,unit),List.replicate (a0_1.toNat) (.sl .nil []),a2,(↑(a2.length):Int),(0:Int),unit),unit)))))
theorem zBc (zcV zae zct zaY zar zaN zcd zce:Zp) (tga2:Tag) (a0_0 a0_1 a0_2 a1:Int) (a2:List D):denP Tryz.prog (zax [(ID.row_in,(.pure [0] zcV)),(ID.geom_Width,(.pure [0] zae)),(ID.row_sectors,(.pure [0] zct)),(ID.place_Disk,(.pure [0] zaY)),(ID.slices_Clone_byte_byte,(.pure [1] zar)),(ID.place_Parity,(.pure [0,0] zaN)),(ID.synd_P,(.pure [1] zcd)),(ID.synd_Q,(.pure [1] zce))]) zqN [1,0] ID.row_Fill [.agg [.int .i64 a0_0,.int .i64 a0_1,.int .i64 a0_2],.int .i64 a1,.sl tga2 a2]=zp9 zcV zae zct zaY zar zaN zcd zce a0_0 a0_1 a0_2 a1 (D.lentL a2):=by kernel_rfl
theorem zwg (tga2:Tag) (a0_0 a0_1 a0_2 a1:Int) (a2:List D):zdn [.agg [.int .i64 a0_0,.int .i64 a0_1,.int .i64 a0_2],.int .i64 a1,.sl tga2 a2]=zp9 zcV zae zct zaY zar zaN zcd zce a0_0 a0_1 a0_2 a1 (D.lentL a2):=zBc zcV zae zct zaY zar zaN zcd zce tga2 a0_0 a0_1 a0_2 a1 a2
def zhR:Ann:={ loops:=[],pubs:=[(2,[(3,128,8225)])],ks:=[(8225,true)] }
noncomputable def zbR:Zs:=denS Tryz.prog (zax [(ID.slices_Clone_disk_write_disk_write,(.pure [33] zaf))]) zhR [0] ID.disk_Disk_Clone
theorem zlP:za2 Tryz.prog ID.disk_Disk_Clone (.st [] [0] [(8225,true)] zbR):=zbg (zaA [zcP]) zbn ⟨Tryz.f51,by kernel_rfl,by kernel_rfl,by kernel_rfl⟩
noncomputable def zmP:Fact Tryz.prog:=⟨ID.disk_Disk_Clone,(.st [] [0] [(8225,true)] zbR),zlP⟩
noncomputable def zga (zaf:Zp) (a0:Nat) (T0:Tb):Option Ans:=
 getK T0 a0 fun d1=>
 sif (1666≤d1.length) <|
 sif (List.length (List.map D.hide (List.take (1666:Nat) (List.drop (0:Nat) d1)))=(1666:Nat)) <|
 getK T0 a0 fun d2=>
 getK d2 ((1664:Nat)) fun d3=>
 zbe d3 fun l4=>
 getK T0 a0 fun d5=>
 getK d5 ((1664:Nat)) fun d6=>
 zbe d6 fun l7=>
 sif (0+l4.length≤l7.length) <|
 zan (zaf [.sl .lent (cut 0 l4.length l7)]) fun r8=>
 zbe r8 fun l9=>
 sif (0+l9.length≤l9.length) <|
 sif ((1664:Nat) < List.length (spl (0:Nat) (1666:Nat) (List.reverse ([D.bool false,D.sl .nil []]++List.replicate 1664 (D.int .u8 0))) (List.map D.hide (List.take (1666:Nat) (List.drop (0:Nat) d1))))) <|
 sif (some (1666:Nat)=some (List.length (spl (0:Nat) (1666:Nat) (List.reverse ([D.bool false,D.sl .nil []]++List.replicate 1664 (D.int .u8 0))) (List.map D.hide (List.take (1666:Nat) (List.drop (0:Nat) d1)))))) <|
 sif (l9.length=l9.length) <|
 sif (zdC l9=true) <|
 sif (zgm (33:Nat) l9=true) <|
 sif (List.all (List.set (spl (0:Nat) (1666:Nat) (List.reverse ([D.bool false,D.sl .nil []]++List.replicate 1664 (D.int .u8 0))) (List.map D.hide (List.take (1666:Nat) (List.drop (0:Nat) d1)))) (1664:Nat) D.nilp) D.own0ok=true) <|
 sif ((true && decide ((1:Nat)=(1:Nat)) && List.all [(1664:Nat)] fun k=>decide (k < List.length (spl (0:Nat) (1666:Nat) (List.reverse ([D.bool false,D.sl .nil []]++List.replicate 1664 (D.int .u8 0))) (List.map D.hide (List.take (1666:Nat) (List.drop (0:Nat) d1))))))=true) <|
 letT (T0++[List.set (List.map D.own0 (spl (0:Nat) (1666:Nat) (List.reverse ([.bool false,.sl .nil []]++List.replicate 1664 (.int .u8 0))) (List.map D.hide (List.take (1666:Nat) (List.drop (0:Nat) d1))))) (1664:Nat) (.sl .own l9)]) fun U10=>
 some (Ans.mk (.h (8225:Nat) (T0.length) (0:Nat)) [] [U10])
theorem zqa (zaf:Zp) (a0:Nat) (T0:Tb):denS Tryz.prog (zax [(ID.slices_Clone_disk_write_disk_write,(.pure [33] zaf))]) zhR [0] ID.disk_Disk_Clone [.h 8225 a0 0] [T0]=zga zaf a0 T0:=by kernel_rfl
theorem zmQ (a0:Nat) (T0:Tb):zbR [.h 8225 a0 0] [T0]=zga zaf a0 T0:=zqa zaf a0 T0
def zhS:Ann:={ loops:=[],ks:=[(8225,true)] }
noncomputable def zbD:Zs:=denS Tryz.prog (zax [(ID.disk_Disk_put,(.st [] [0,0] [(8225,false)] za6))]) zhS [0] ID.disk_Disk_Write
theorem zlQ:za2 Tryz.prog ID.disk_Disk_Write (.st [] [0] [(8225,true)] zbD):=zbg (zaA [zic]) zbn ⟨Tryz.f116,by kernel_rfl,by kernel_rfl,by kernel_rfl⟩
noncomputable def zmR:Fact Tryz.prog:=⟨ID.disk_Disk_Write,(.st [] [0] [(8225,true)] zbD),zlQ⟩
noncomputable def zgb (za6:Zs) (a0:Nat) (a1:Int) (a2:List D) (T0:Tb):Option Ans:=
 zan (za6 [.h 8225 a0 0,.int .i64 a1,.sl .lent a2] [T0]) fun r1=>
 nilK r1.outs <|
 nilK r1.tbs <|
 zdP r1.r fun ts2=>
 zaz ([Lf.any,Lf.any]) ts2 fun c3=>
 asAgg c3.1 fun cs4=>
 zaz ([Lf.int .i64,Lf.arr (32)]) cs4 fun c5=>
 asI .i64 c3.2.1 fun i6=>
 sif (List.length ([D.int .i64 c5.1]++(c5.2.1++[]))=(33:Nat)) <|
 brK (i6 == 0)
  (getK T0 a0 fun d7=>
  getK d7 ((1664:Nat)) fun d8=>
  zbe d8 fun l9=>
  sif (33≤List.length ([D.int .i64 c5.1]++(c5.2.1++[]))) <|
  zaz ([Lf.int .i64,Lf.arr (32)]) (List.take (33:Nat) (List.drop (0:Nat) ([.int .i64 c5.1]++(c5.2.1++[])))) fun c10=>
  sif (zeC (33:Nat) [D.agg ([D.int .i64 c10.1]++(c10.2.1++[]))]=true) <|
  getK T0 a0 fun d11=>
  getK d11 ((1664:Nat)) fun d12=>
  zbe d12 fun l13=>
  sif (l9.length+1≤4294967296) <|
  sif (zeC (33:Nat) [D.agg ([D.int .i64 c10.1]++(c10.2.1++[]))]=true) <|
  sif (l9.length=l13.length) <|
  letT (setT T0 a0 (1664:Nat) D.undef) fun U14=>
  getK U14 a0 fun d15=>
  sif (1665≤d15.length) <|
  sif (l9.length+1=List.length (l13++[D.agg ([D.int .i64 c10.1]++(c10.2.1++[]))])) <|
  sif (zdC (l13++[D.agg ([D.int .i64 c10.1]++(c10.2.1++[]))])=true) <|
  sif (zgm (33:Nat) (l13++[D.agg ([D.int .i64 c10.1]++(c10.2.1++[]))])=true) <|
  letT (za8 U14 a0 (1664:Nat) [.sl .own (l13++[.agg ([.int .i64 c10.1]++(c10.2.1++[]))])]) fun U16=>
  some (Ans.mk (.int .i64 i6) [] [U16]))
  (some (Ans.mk (.int .i64 i6) [] [T0]))
theorem zqb (za6:Zs) (tga2:Tag) (a0:Nat) (a1:Int) (a2:List D) (T0:Tb):denS Tryz.prog (zax [(ID.disk_Disk_put,(.st [] [0,0] [(8225,false)] za6))]) zhS [0] ID.disk_Disk_Write [.h 8225 a0 0,.int .i64 a1,.sl tga2 a2] [T0]=zgb za6 a0 a1 (D.lentL a2) T0:=by kernel_rfl
theorem zmS (tga2:Tag) (a0:Nat) (a1:Int) (a2:List D) (T0:Tb):zbD [.h 8225 a0 0,.int .i64 a1,.sl tga2 a2] [T0]=zgb za6 a0 a1 (D.lentL a2) T0:=zqb za6 tga2 a0 a1 a2 T0
def zfD:Ann:={ loops:=[],ks:=[(2496,true)] }
noncomputable def zbf:Zs:=denS Tryz.prog (zax []) zfD [0] ID.bench_counter_count
theorem ziA:za2 Tryz.prog ID.bench_counter_count (.st [] [0] [(2496,true)] zbf):=zbg (zaA []) zbn ⟨Tryz.f117,by kernel_rfl,by kernel_rfl,by kernel_rfl⟩
noncomputable def zjm:Fact Tryz.prog:=⟨ID.bench_counter_count,(.st [] [0] [(2496,true)] zbf),ziA⟩
noncomputable def zel (a0:Nat) (T0:Tb):Option Ans:=
 getK T0 a0 fun d1=>
 getK d1 ((1:Nat)) fun d2=>
 asI .i64 d2 fun i3=>
 brK (i3 == 0)
  (getK T0 a0 fun d4=>
  sif (3≤d4.length) <|
  sif (zil (List.take (1:Nat) (List.drop (2:Nat) d4))=true) <|
  letT (za8 T0 a0 (2:Nat) [.bool true]) fun U5=>
  some (Ans.mk (.bool false) [] [U5]))
  (getK T0 a0 fun d6=>
  getK d6 ((1:Nat)) fun d7=>
  asI .i64 d7 fun i8=>
  brK (decide (i8 > 0))
   (getK T0 a0 fun d9=>
   getK d9 ((1:Nat)) fun d10=>
   asI .i64 d10 fun i11=>
   letN (IntKind.i64.wrap (i11 - 1)) fun n12=>
   getK T0 a0 fun d13=>
   sif (2≤d13.length) <|
   sif (zil (List.take (1:Nat) (List.drop (1:Nat) d13))=true) <|
   letT (za8 T0 a0 (1:Nat) [.int .i64 n12]) fun U14=>
   getK U14 a0 fun d15=>
   getK d15 ((0:Nat)) fun d16=>
   asI .i64 d16 fun i17=>
   letN (IntKind.i64.wrap (i17+1)) fun n18=>
   getK U14 a0 fun d19=>
   sif (1≤d19.length) <|
   sif (zil (List.take (1:Nat) (List.drop (0:Nat) d19))=true) <|
   letT (za8 U14 a0 (0:Nat) [.int .i64 n18]) fun U20=>
   some (Ans.mk (.bool true) [] [U20]))
   (getK T0 a0 fun d21=>
   getK d21 ((0:Nat)) fun d22=>
   asI .i64 d22 fun i23=>
   letN (IntKind.i64.wrap (i23+1)) fun n24=>
   getK T0 a0 fun d25=>
   sif (1≤d25.length) <|
   sif (zil (List.take (1:Nat) (List.drop (0:Nat) d25))=true) <|
   letT (za8 T0 a0 (0:Nat) [.int .i64 n24]) fun U26=>
   some (Ans.mk (.bool true) [] [U26])))
theorem zlR (a0:Nat) (T0:Tb):denS Tryz.prog (zax []) zfD [0] ID.bench_counter_count [.h 2496 a0 0] [T0]=zel a0 T0:=by kernel_rfl
theorem zjn (a0:Nat) (T0:Tb):zbf [.h 2496 a0 0] [T0]=zel a0 T0:=zlR a0 T0
def zgw:Ann:={ loops:=[],ks:=[(2496,true),(8225,true)] }
noncomputable def zbu:Zs:=denS Tryz.prog (zax [(ID.bench_Bench_may,(.st [] [0] [(2496,false)] zaB)),(ID.disk_Disk_Clone,(.st [] [0] [(8225,true)] zbR)),(ID.disk_Disk_Write,(.st [] [0] [(8225,true)] zbD)),(ID.bench_counter_count,(.st [] [0] [(2496,true)] zbf))]) zgw [0] ID.bench_Bench_Write
theorem zj6:za2 Tryz.prog ID.bench_Bench_Write (.st [] [0] [(2496,true),(8225,true)] zbu):=zbg (zaA [zeN,zmP,zmR,zjm]) zbn ⟨Tryz.f77,by kernel_rfl,by kernel_rfl,by kernel_rfl⟩
noncomputable def zkH:Fact Tryz.prog:=⟨ID.bench_Bench_Write,(.st [] [0] [(2496,true),(8225,true)] zbu),zj6⟩
noncomputable def ze7 (zaB zbR zbD zbf:Zs) (a0:Nat) (a1 a2:Int) (a3:List D) (T0 T1:Tb):Option Ans:=
 zan (zaB [.h 2496 a0 0,.int .i64 a1] [T0]) fun r1=>
 nilK r1.outs <|
 nilK r1.tbs <|
 asI .i64 r1.r fun i2=>
 brK (i2 != 0)
  (some (Ans.mk (.int .i64 i2) [] [T0,T1]))
  (getK T0 a0 fun d3=>
  getK d3 ((3:Nat)) fun d4=>
  zbe d4 fun l5=>
  getK T0 a0 fun d6=>
  getK d6 ((3:Nat)) fun d7=>
  zbe d7 fun l8=>
  sif (0≤a1) <|
  sif (a1.toNat < l5.length) <|
  getK T0 a0 fun d9=>
  getK d9 ((3:Nat)) fun d10=>
  zbe d10 fun l11=>
  getK l11 (0+a1.toNat) fun d12=>
  sif (D.isAgg d12=false) <|
  sif (D.width d12=(1:Nat)) <|
  sif (D.cell d12=true) <|
  zan (zbR [d12] [T1]) fun r13=>
  nilK r13.outs <|
  zeE r13.tbs fun c14 q15=>
  nilK q15 <|
  sif (zhs r13.r=true) <|
  zan (zbD [r13.r,.int .i64 a2,.sl .lent a3] [c14]) fun r16=>
  nilK r16.outs <|
  zeE r16.tbs fun c17 q18=>
  nilK q18 <|
  asI .i64 r16.r fun i19=>
  brK (i19 != 0)
   (some (Ans.mk (.int .i64 i19) [] [T0,c17]))
   (zan (zbf [.h 2496 a0 0] [T0]) fun r20=>
   nilK r20.outs <|
   zeE r20.tbs fun c21 q22=>
   nilK q22 <|
   asB r20.r fun b23=>
   brK (!b23)
    (some (Ans.mk (.int .i64 6) [] [c21,c17]))
    (getK c21 a0 fun d24=>
    getK d24 ((3:Nat)) fun d25=>
    zbe d25 fun l26=>
    getK c21 a0 fun d27=>
    getK d27 ((3:Nat)) fun d28=>
    zbe d28 fun l29=>
    sif (0≤a1) <|
    sif (a1.toNat < l26.length) <|
    getK c21 a0 fun d30=>
    getK d30 ((3:Nat)) fun d31=>
    zbe d31 fun l32=>
    getK l32 (0+a1.toNat) fun d33=>
    sif (D.isAgg d33=false) <|
    sif (D.width d33=(1:Nat)) <|
    sif (D.cell d33=true) <|
    zan (zbD [d33,.int .i64 a2,.sl .lent a3] [c17]) fun r34=>
    nilK r34.outs <|
    zeE r34.tbs fun c35 q36=>
    nilK q36 <|
    asI .i64 r34.r fun i37=>
    some (Ans.mk (.int .i64 i37) [] [c21,c35]))))
theorem znZ (zaB zbR zbD zbf:Zs) (tga3:Tag) (a0:Nat) (a1 a2:Int) (a3:List D) (T0 T1:Tb):denS Tryz.prog (zax [(ID.bench_Bench_may,(.st [] [0] [(2496,false)] zaB)),(ID.disk_Disk_Clone,(.st [] [0] [(8225,true)] zbR)),(ID.disk_Disk_Write,(.st [] [0] [(8225,true)] zbD)),(ID.bench_counter_count,(.st [] [0] [(2496,true)] zbf))]) zgw [0] ID.bench_Bench_Write [.h 2496 a0 0,.int .i64 a1,.int .i64 a2,.sl tga3 a3] [T0,T1]=ze7 zaB zbR zbD zbf a0 a1 a2 (D.lentL a3) T0 T1:=by kernel_rfl
theorem zkI (tga3:Tag) (a0:Nat) (a1 a2:Int) (a3:List D) (T0 T1:Tb):zbu [.h 2496 a0 0,.int .i64 a1,.int .i64 a2,.sl tga3 a3] [T0,T1]=ze7 zaB zbR zbD zbf a0 a1 a2 (D.lentL a3) T0 T1:=znZ zaB zbR zbD zbf tga3 a0 a1 a2 a3 T0 T1
def zkm:Ann:={ loops:=[(1,.val (.cell (.hnd (2496:Nat)))::.val (.cell .lent)::.dead::.val (.cell (.int .i64))::dd 21 [.own 1,.val (.cell (.int .i64)),.val (.cell (.int .i64))])],ks:=[(2496,true),(8225,true)] }
noncomputable def zb7:Zs:=denS Tryz.prog (zax [(ID.row_Fill,(.pure [1,0] zdn)),(ID.stripe_up,(.st [] [0] [(2496,false),(8225,false)] zaT)),(ID.bench_Bench_Write,(.st [] [0] [(2496,true),(8225,true)] zbu))]) zkm [0] ID.stripe_Write
theorem zpf:za2 Tryz.prog ID.stripe_Write (.st [] [0] [(2496,true),(8225,true)] zb7):=zbg (zaA [zwf,zgh,zkH]) zbn ⟨Tryz.f89,by kernel_rfl,by kernel_rfl,by kernel_rfl⟩
noncomputable def zqc:Fact Tryz.prog:=⟨ID.stripe_Write,(.st [] [0] [(2496,true),(8225,true)] zb7),zpf⟩
noncomputable def ziB (zdn:Zp) (zaT zbu:Zs) (a0:Nat) (a1:List D) (a2_0 a2_1 a2_2 a3:Int) (a4:List D) (T0 T1:Tb):Option Ans:=
 zan (zdn [.agg [.int .i64 a2_0,.int .i64 a2_1,.int .i64 a2_2],.int .i64 a3,.sl .lent a4]) fun r1=>
 zdP r1 fun ts2=>
 zaz ([Lf.any,Lf.any]) ts2 fun c3=>
 zbe c3.1 fun l4=>
 asB c3.2.1 fun b5=>
 brK (!b5)
  (some (Ans.mk (.int .i64 1) [] [T0,T1]))
  (sif (0+l4.length≤l4.length) <|
  sif (l4.length=l4.length) <|
  zb3 (α:=(Nat×List D×Int×List D×Int×Int×PUnit)×List (List D)×List (List D)×PUnit) (fun again6 ((x7,(l8,(i9,(l10,(i11,(i12,_)))))),(U13,(U14,_)))=>
   brK (decide (i12 < i11))
    (sif (0≤i12) <|
    sif (i12.toNat < l10.length) <|
    getK l10 (0+i12.toNat) fun d15=>
    asSl d15 fun t16 l17=>
    zan (zaT [.h (2496) x7 (0:Nat),.sl .lent l8,.int .i64 i12] [U13,U14]) fun r18=>
    nilK r18.outs <|
    nilK r18.tbs <|
    asB r18.r fun b19=>
    brK (!b19)
     (letN (IntKind.i64.wrap (i12+1)) fun n20=>
     sif (l10.length=l10.length) <|
     again6 (((x7,l8,i9,l10,i11,n20,unit),U13,U14,unit)))
     (letN (IntKind.i64.wrap (36+i9)) fun n21=>
     zan (zbu [.h (2496) x7 (0:Nat),.int .i64 i12,.int .i64 n21,.sl t16 l17] [U13,U14]) fun r22=>
     nilK r22.outs <|
     zeE r22.tbs fun c23 q24=>
     zeE q24 fun c25 q26=>
     nilK q26 <|
     asI .i64 r22.r fun i27=>
     brK (i27 != 0)
      (some (Ans.mk (.int .i64 i27) [] [c23,c25]))
      (letN (IntKind.i64.wrap (i12+1)) fun n28=>
      sif (l10.length=l10.length) <|
      again6 (((x7,l8,i9,l10,i11,n28,unit),c23,c25,unit)))))
    (some (Ans.mk (.int .i64 0) [] [U13,U14])))
   (((a0,a1,a3,l4,(↑(l4.length):Int),(0:Int),unit),T0,T1,unit)))
theorem ztT (zdn:Zp) (zaT zbu:Zs) (tga1 tga4:Tag) (a0:Nat) (a1:List D) (a2_0 a2_1 a2_2 a3:Int) (a4:List D) (T0 T1:Tb):denS Tryz.prog (zax [(ID.row_Fill,(.pure [1,0] zdn)),(ID.stripe_up,(.st [] [0] [(2496,false),(8225,false)] zaT)),(ID.bench_Bench_Write,(.st [] [0] [(2496,true),(8225,true)] zbu))]) zkm [0] ID.stripe_Write [.h 2496 a0 0,.sl tga1 a1,.agg [.int .i64 a2_0,.int .i64 a2_1,.int .i64 a2_2],.int .i64 a3,.sl tga4 a4] [T0,T1]=ziB zdn zaT zbu a0 (D.lentL a1) a2_0 a2_1 a2_2 a3 (D.lentL a4) T0 T1:=by kernel_rfl
theorem zqd (tga1 tga4:Tag) (a0:Nat) (a1:List D) (a2_0 a2_1 a2_2 a3:Int) (a4:List D) (T0 T1:Tb):zb7 [.h 2496 a0 0,.sl tga1 a1,.agg [.int .i64 a2_0,.int .i64 a2_1,.int .i64 a2_2],.int .i64 a3,.sl tga4 a4] [T0,T1]=ziB zdn zaT zbu a0 (D.lentL a1) a2_0 a2_1 a2_2 a3 (D.lentL a4) T0 T1:=ztT zdn zaT zbu tga1 tga4 a0 a1 a2_0 a2_1 a2_2 a3 a4 T0 T1
def zhT:Ann:={ loops:=[(1,.val (.cell (.hnd (8225:Nat)))::dd 11 [.view 8225 1664,.val (.cell (.int .i64)),.val (.cell (.int .i64))])],ks:=[(8225,true)] }
noncomputable def zbS:Zs:=denS Tryz.prog (zax []) zhT [0] ID.disk_Disk_Flush
theorem zlS:za2 Tryz.prog ID.disk_Disk_Flush (.st [] [0] [(8225,true)] zbS):=zbg (zaA []) zbn ⟨Tryz.f150,by kernel_rfl,by kernel_rfl,by kernel_rfl⟩
noncomputable def zmT:Fact Tryz.prog:=⟨ID.disk_Disk_Flush,(.st [] [0] [(8225,true)] zbS),zlS⟩
noncomputable def zgc (a0:Nat) (T0:Tb):Option Ans:=
 getK T0 a0 fun d1=>
 getK d1 ((1665:Nat)) fun d2=>
 asB d2 fun b3=>
 brK b3
  (some (Ans.mk (.int .i64 5) [] [T0]))
  (getK T0 a0 fun d4=>
  getK d4 ((1664:Nat)) fun d5=>
  zbe d5 fun l6=>
  getK T0 a0 fun d7=>
  getK d7 ((1664:Nat)) fun d8=>
  zbe d8 fun l9=>
  sif (0+l6.length≤l9.length) <|
  zb3 (α:=(Nat×(Nat×Nat×Nat)×Int×Int×PUnit)×List (List D)×PUnit) (fun again10 ((x11,((x12,(x13,x14)),(i15,(i16,_)))),(U17,_))=>
   brK (decide (i16 < i15))
    (getK U17 x12 fun d18=>
    getK d18 ((1664:Nat)) fun d19=>
    zbe d19 fun l20=>
    sif (0≤i16) <|
    sif (i16.toNat < x14) <|
    getK U17 x12 fun d21=>
    getK d21 ((1664:Nat)) fun d22=>
    zbe d22 fun l23=>
    getK l23 (x13+i16.toNat) fun d24=>
    asAgg d24 fun cs25=>
    zaz ([Lf.int .i64,Lf.arr (32)]) cs25 fun c26=>
    sif (D.width (D.agg ([D.int .i64 c26.1]++(c26.2.1++[])))=(33:Nat)) <|
    sif (List.length ([D.int .i64 c26.1]++(c26.2.1++[]))=(33:Nat)) <|
    sif (33≤List.length ([D.int .i64 c26.1]++(c26.2.1++[]))) <|
    sif (List.length (List.take (32:Nat) (List.drop (1:Nat) ([D.int .i64 c26.1]++(c26.2.1++[]))))=(32:Nat)) <|
    sif (0≤c26.1) <|
    sif (Int.toNat c26.1 < 52) <|
    getK U17 x11 fun d27=>
    sif (0+Int.toNat c26.1*32+32≤d27.length) <|
    sif (List.length (List.take (32:Nat) (List.drop (1:Nat) ([D.int .i64 c26.1]++(c26.2.1++[]))))=(32:Nat)) <|
    sif (zil (List.take (32:Nat) (List.drop (1:Nat) ([D.int .i64 c26.1]++(c26.2.1++[]))))=true) <|
    sif (zil (List.take (32:Nat) (List.drop (0+Int.toNat c26.1*32) d27))=true) <|
    letT (za8 U17 x11 (0+Int.toNat c26.1*32) (List.take (32:Nat) (List.drop (1:Nat) ([.int .i64 c26.1]++(c26.2.1++[]))))) fun U28=>
    letN (IntKind.i64.wrap (i16+1)) fun n29=>
    again10 (((x11,(x12,x13,x14),i15,n29,unit),U28,unit)))
    (getK U17 x11 fun d30=>
    sif (1665≤d30.length) <|
    letT (za8 U17 x11 (1664:Nat) [.sl .own []]) fun U31=>
    some (Ans.mk (.int .i64 0) [] [U31])))
   (((a0,(a0,(0:Nat),l6.length),(↑(l6.length):Int),(0:Int),unit),T0,unit)))
theorem zqe (a0:Nat) (T0:Tb):denS Tryz.prog (zax []) zhT [0] ID.disk_Disk_Flush [.h 8225 a0 0] [T0]=zgc a0 T0:=by kernel_rfl
theorem zmU (a0:Nat) (T0:Tb):zbS [.h 8225 a0 0] [T0]=zgc a0 T0:=zqe a0 T0
def zgx:Ann:={ loops:=[],ks:=[(2496,false),(8225,true)] }
noncomputable def zbv:Zs:=denS Tryz.prog (zax [(ID.bench_Bench_may,(.st [] [0] [(2496,false)] zaB)),(ID.disk_Disk_Flush,(.st [] [0] [(8225,true)] zbS))]) zgx [0] ID.bench_Bench_Flush
theorem zj7:za2 Tryz.prog ID.bench_Bench_Flush (.st [] [0] [(2496,false),(8225,true)] zbv):=zbg (zaA [zeN,zmT]) zbn ⟨Tryz.f118,by kernel_rfl,by kernel_rfl,by kernel_rfl⟩
noncomputable def zkJ:Fact Tryz.prog:=⟨ID.bench_Bench_Flush,(.st [] [0] [(2496,false),(8225,true)] zbv),zj7⟩
noncomputable def ze8 (zaB zbS:Zs) (a0:Nat) (a1:Int) (T0 T1:Tb):Option Ans:=
 zan (zaB [.h 2496 a0 0,.int .i64 a1] [T0]) fun r1=>
 nilK r1.outs <|
 nilK r1.tbs <|
 asI .i64 r1.r fun i2=>
 brK (i2 != 0)
  (some (Ans.mk (.int .i64 i2) [] [T1]))
  (getK T0 a0 fun d3=>
  getK d3 ((3:Nat)) fun d4=>
  zbe d4 fun l5=>
  getK T0 a0 fun d6=>
  getK d6 ((3:Nat)) fun d7=>
  zbe d7 fun l8=>
  sif (0≤a1) <|
  sif (a1.toNat < l5.length) <|
  getK T0 a0 fun d9=>
  getK d9 ((3:Nat)) fun d10=>
  zbe d10 fun l11=>
  getK l11 (0+a1.toNat) fun d12=>
  sif (D.isAgg d12=false) <|
  sif (D.width d12=(1:Nat)) <|
  sif (D.cell d12=true) <|
  zan (zbS [d12] [T1]) fun r13=>
  nilK r13.outs <|
  zeE r13.tbs fun c14 q15=>
  nilK q15 <|
  asI .i64 r13.r fun i16=>
  some (Ans.mk (.int .i64 i16) [] [c14]))
theorem zn0 (zaB zbS:Zs) (a0:Nat) (a1:Int) (T0 T1:Tb):denS Tryz.prog (zax [(ID.bench_Bench_may,(.st [] [0] [(2496,false)] zaB)),(ID.disk_Disk_Flush,(.st [] [0] [(8225,true)] zbS))]) zgx [0] ID.bench_Bench_Flush [.h 2496 a0 0,.int .i64 a1] [T0,T1]=ze8 zaB zbS a0 a1 T0 T1:=by kernel_rfl
theorem zkK (a0:Nat) (a1:Int) (T0 T1:Tb):zbv [.h 2496 a0 0,.int .i64 a1] [T0,T1]=ze8 zaB zbS a0 a1 T0 T1:=zn0 zaB zbS a0 a1 T0 T1
def zkn:Ann:={ loops:=[(0,.val (.cell (.hnd (2496:Nat)))::.val (.cell .lent)::dd 6 [.val (.cell (.int .i64)),.val (.cell (.int .i64))])],ks:=[(2496,false),(8225,true)] }
noncomputable def zb8:Zs:=denS Tryz.prog (zax [(ID.bench_Bench_Len,(.st [] [0] [(2496,false)] zaU)),(ID.stripe_up,(.st [] [0] [(2496,false),(8225,false)] zaT)),(ID.bench_Bench_Flush,(.st [] [0] [(2496,false),(8225,true)] zbv))]) zkn [0] ID.stripe_Flush
theorem zpg:za2 Tryz.prog ID.stripe_Flush (.st [] [0] [(2496,false),(8225,true)] zb8):=zbg (zaA [zgR,zgh,zkJ]) zbn ⟨Tryz.f90,by kernel_rfl,by kernel_rfl,by kernel_rfl⟩
noncomputable def zqf:Fact Tryz.prog:=⟨ID.stripe_Flush,(.st [] [0] [(2496,false),(8225,true)] zb8),zpg⟩
noncomputable def ziC (zaU zaT zbv:Zs) (a0:Nat) (a1:List D) (T0 T1:Tb):Option Ans:=
 zan (zaU [.h 2496 a0 0] [T0]) fun r1=>
 nilK r1.outs <|
 nilK r1.tbs <|
 asI .i64 r1.r fun i2=>
 zb3 (α:=(Nat×List D×Int×Int×PUnit)×List (List D)×List (List D)×PUnit) (fun again3 ((x4,(l5,(i6,(i7,_)))),(U8,(U9,_)))=>
  brK (decide (i7 < i6))
   (zan (zaT [.h (2496) x4 (0:Nat),.sl .lent l5,.int .i64 i7] [U8,U9]) fun r10=>
   nilK r10.outs <|
   nilK r10.tbs <|
   asB r10.r fun b11=>
   brK (!b11)
    (letN (IntKind.i64.wrap (i7+1)) fun n12=>
    again3 (((x4,l5,i6,n12,unit),U8,U9,unit)))
    (zan (zbv [.h (2496) x4 (0:Nat),.int .i64 i7] [U8,U9]) fun r13=>
    nilK r13.outs <|
    zeE r13.tbs fun c14 q15=>
    nilK q15 <|
    asI .i64 r13.r fun i16=>
    brK (i16 != 0)
     (some (Ans.mk (.int .i64 i16) [] [c14]))
     (letN (IntKind.i64.wrap (i7+1)) fun n17=>
     again3 (((x4,l5,i6,n17,unit),U8,c14,unit)))))
   (some (Ans.mk (.int .i64 0) [] [U9])))
  (((a0,a1,i2,(0:Int),unit),T0,T1,unit))
theorem ztU (zaU zaT zbv:Zs) (tga1:Tag) (a0:Nat) (a1:List D) (T0 T1:Tb):denS Tryz.prog (zax [(ID.bench_Bench_Len,(.st [] [0] [(2496,false)] zaU)),(ID.stripe_up,(.st [] [0] [(2496,false),(8225,false)] zaT)),(ID.bench_Bench_Flush,(.st [] [0] [(2496,false),(8225,true)] zbv))]) zkn [0] ID.stripe_Flush [.h 2496 a0 0,.sl tga1 a1] [T0,T1]=ziC zaU zaT zbv a0 (D.lentL a1) T0 T1:=by kernel_rfl
theorem zqg (tga1:Tag) (a0:Nat) (a1:List D) (T0 T1:Tb):zb8 [.h 2496 a0 0,.sl tga1 a1] [T0,T1]=ziC zaU zaT zbv a0 (D.lentL a1) T0 T1:=ztU zaU zaT zbv tga1 a0 a1 T0 T1
def zko:Ann:={ loops:=[(1,.val (.cell (.hnd (2496:Nat)))::.val (.cell .lent)::dd 2 (.val (.cell (.int .i64))::.val (.cell .lent)::dd 2 (.box true [(.int .i64),(.int .i64),(.int .i64)]::.box true [(.int .i64),(.int .i64),(.int .i64)]::dd 3 (.val (.cell (.int .i64))::dd 29 [.val (.cell .lent),.val (.cell (.int .i64)),.val (.cell (.int .i64))])))),(4,.val (.cell (.hnd 2496))::.val (.cell .lent)::dd 2 (.val (.cell (.int .i64))::.val (.cell .lent)::dd 3 (.box true [(.int .i64),(.int .i64),(.int .i64)]::dd 3 (.val (.cell (.int .i64))::dd 3 [.val (.cell (.int .i64)),.val (.cell (.int .i64))])))),(6,.val (.cell (.hnd 2496))::.val (.cell .lent)::dd 2 (.val (.cell (.int .i64))::.val (.cell .lent)::dd 3 (.box true [(.int .i64),(.int .i64),(.int .i64)]::dd 3 (.val (.cell (.int .i64))::dd 3 (.val (.cell (.int .i64))::.val (.cell (.int .i64))::.own 1::dd 49 [.own 1,.val (.cell (.int .i64)),.val (.cell (.int .i64))])))))],ks:=[(2496,true),(8225,true)] }
noncomputable def zb1:Zs:=denS Tryz.prog (zax [(ID.plan_Span,(.pure [0,0] zbV)),(ID.window_may,(.pure [0] zbK)),(ID.plan_Rows,(.pure [0] zbb)),(ID.place_Numbers,(.pure [1] za1)),(ID.stripe_Write,(.st [] [0] [(2496,true),(8225,true)] zb7)),(ID.stripe_Flush,(.st [] [0] [(2496,false),(8225,true)] zb8))]) zko [0] ID.window_Write
theorem zph:za2 Tryz.prog ID.window_Write (.st [] [0] [(2496,true),(8225,true)] zb1):=zbg (zaA [zm6,zly,zit,zif,zqc,zqf]) zbn ⟨Tryz.f42,by kernel_rfl,by kernel_rfl,by kernel_rfl⟩
noncomputable def zqh:Fact Tryz.prog:=⟨ID.window_Write,(.st [] [0] [(2496,true),(8225,true)] zb1),zph⟩
noncomputable def ziD (zbV zbK zbb za1:Zp) (zb7 zb8:Zs) (a0:Nat) (a1:List D) (a2_0 a2_1 a2_2 a3_0 a3_1 a3_2 a4:Int) (a5:List D) (T0 T1:Tb):Option Ans:=
 zan (zbV [.agg [.int .i64 a2_0,.int .i64 a2_1,.int .i64 a2_2],.agg [.int .i64 a3_0,.int .i64 a3_1,.int .i64 a3_2],.int .i64 a4]) fun r1=>
 zdP r1 fun ts2=>
 zaz ([Lf.any,Lf.any]) ts2 fun c3=>
 asI .i64 c3.1 fun i4=>
 asI .i64 c3.2.1 fun i5=>
 zan (zbK [.agg [.int .i64 a2_0,.int .i64 a2_1,.int .i64 a2_2],.agg [.int .i64 a3_0,.int .i64 a3_1,.int .i64 a3_2],.int .i64 a4]) fun r6=>
 asB r6 fun b7=>
 brK (!b7)
  (some (Ans.mk (.int .i64 1) [] [T0,T1]))
  (letN (IntKind.i64.wrap (i5 - i4)) fun n8=>
  brK ((↑(a5.length):Int) != n8)
   (some (Ans.mk (.int .i64 1) [] [T0,T1]))
   (zb3 (α:=(Nat×List D×Int×List D×(Int×Int×Int×PUnit)×(Int×Int×Int×PUnit)×Int×List D×Int×Int×PUnit)×List (List D)×List (List D)×PUnit) (fun again9 ((x10,(l11,(i12,(l13,((i14,(i15,(i16,_))),((i17,(i18,(i19,_))),(i20,(l21,(i22,(i23,_)))))))))),(U24,(U25,_)))=>
    brK (decide (i23 < i22))
     (sif (0≤i23) <|
     getK l21 (i23.toNat) fun d26=>
     asSl d26 fun t27 l28=>
     brK ((↑(l28.length):Int) != 32)
      (some (Ans.mk (.int .i64 1) [] [U24,U25]))
      (letN (IntKind.i64.wrap (i23+1)) fun n29=>
      again9 (((x10,l11,i12,l13,(i14,i15,i16,unit),(i17,i18,i19,unit),i20,l21,i22,n29,unit),U24,U25,unit))))
     (zan (zbb [.agg [.int .i64 i14,.int .i64 i15,.int .i64 i16],.agg [.int .i64 i17,.int .i64 i18,.int .i64 i19]]) fun r30=>
     asI .i64 r30 fun i31=>
     letN (IntKind.i64.wrap (i12*i31)) fun n32=>
     zb3 (α:=(Nat×List D×Int×List D×(Int×Int×Int×PUnit)×Int×Int×Int×PUnit)×List (List D)×List (List D)×PUnit) (fun again33 ((x34,(l35,(i36,(l37,((i38,(i39,(i40,_))),(i41,(i42,(i43,_)))))))),(U44,(U45,_)))=>
      letN (IntKind.i64.wrap (i36+1)) fun n46=>
      letN (IntKind.i64.wrap (n46*i42)) fun n47=>
      brK (decide (i43 < n47))
       (zan (za1 [.agg [.int .i64 i38,.int .i64 i39,.int .i64 i40],.int .i64 i43]) fun r48=>
       zbe r48 fun l49=>
       sif (0+l49.length≤l49.length) <|
       sif (l49.length=l49.length) <|
       zb3 (α:=(Nat×List D×Int×List D×(Int×Int×Int×PUnit)×Int×Int×Int×List D×List D×Int×Int×PUnit)×List (List D)×List (List D)×PUnit) (fun again50 ((x51,(l52,(i53,(l54,((i55,(i56,(i57,_))),(i58,(i59,(i60,(l61,(l62,(i63,(i64,_)))))))))))),(U65,(U66,_)))=>
        brK (decide (i64 < i63))
         (sif (0≤i64) <|
         sif (i64.toNat < l62.length) <|
         getK l62 (0+i64.toNat) fun d67=>
         asI .i64 d67 fun i68=>
         letN (IntKind.i64.wrap (i68 - i58)) fun n69=>
         sif (0≤n69) <|
         getK l54 (n69.toNat) fun d70=>
         asSl d70 fun t71 l72=>
         sif (l61.length+1≤4294967296) <|
         sif (l61.length=l61.length) <|
         letN (IntKind.i64.wrap (i64+1)) fun n73=>
         sif (l61.length+1=List.length (l61++[D.sl t71 l72])) <|
         sif (l62.length=l62.length) <|
         again50 (((x51,l52,i53,l54,(i55,i56,i57,unit),i58,i59,i60,l61++[.sl t71 l72],l62,i63,n73,unit),U65,U66,unit)))
         (sif (0+l61.length≤l61.length) <|
         zan (zb7 [.h (2496) x51 (0:Nat),.sl .lent l52,.agg [.int .i64 i55,.int .i64 i56,.int .i64 i57],.int .i64 i60,.sl .lent (cut 0 l61.length l61)] [U65,U66]) fun r74=>
         nilK r74.outs <|
         zeE r74.tbs fun c75 q76=>
         zeE q76 fun c77 q78=>
         nilK q78 <|
         asI .i64 r74.r fun i79=>
         brK (i79 != 0)
          (some (Ans.mk (.int .i64 i79) [] [c75,c77]))
          (letN (IntKind.i64.wrap (i60+1)) fun n80=>
          again33 (((x51,l52,i53,l54,(i55,i56,i57,unit),i58,i59,n80,unit),c75,c77,unit)))))
        (((x34,l35,i36,l37,(i38,i39,i40,unit),i41,i42,i43,[],l49,(↑(l49.length):Int),(0:Int),unit),U44,U45,unit)))
       (zan (zb8 [.h (2496) x34 (0:Nat),.sl .lent l35] [U44,U45]) fun r81=>
       nilK r81.outs <|
       zeE r81.tbs fun c82 q83=>
       nilK q83 <|
       asI .i64 r81.r fun i84=>
       some (Ans.mk (.int .i64 i84) [] [U44,c82])))
      (((x10,l11,i12,l13,(i17,i18,i19,unit),i20,i31,n32,unit),U24,U25,unit))))
    (((a0,a1,a4,a5,(a2_0,a2_1,a2_2,unit),(a3_0,a3_1,a3_2,unit),i4,a5,(↑(a5.length):Int),(0:Int),unit),T0,T1,unit))))
theorem ztV (zbV zbK zbb za1:Zp) (zb7 zb8:Zs) (tga1 tga5:Tag) (a0:Nat) (a1:List D) (a2_0 a2_1 a2_2 a3_0 a3_1 a3_2 a4:Int) (a5:List D) (T0 T1:Tb):denS Tryz.prog (zax [(ID.plan_Span,(.pure [0,0] zbV)),(ID.window_may,(.pure [0] zbK)),(ID.plan_Rows,(.pure [0] zbb)),(ID.place_Numbers,(.pure [1] za1)),(ID.stripe_Write,(.st [] [0] [(2496,true),(8225,true)] zb7)),(ID.stripe_Flush,(.st [] [0] [(2496,false),(8225,true)] zb8))]) zko [0] ID.window_Write [.h 2496 a0 0,.sl tga1 a1,.agg [.int .i64 a2_0,.int .i64 a2_1,.int .i64 a2_2],.agg [.int .i64 a3_0,.int .i64 a3_1,.int .i64 a3_2],.int .i64 a4,.sl tga5 a5] [T0,T1]=ziD zbV zbK zbb za1 zb7 zb8 a0 (D.lentL a1) a2_0 a2_1 a2_2 a3_0 a3_1 a3_2 a4 (D.lentL a5) T0 T1:=by kernel_rfl
theorem zqi (tga1 tga5:Tag) (a0:Nat) (a1:List D) (a2_0 a2_1 a2_2 a3_0 a3_1 a3_2 a4:Int) (a5:List D) (T0 T1:Tb):zb1 [.h 2496 a0 0,.sl tga1 a1,.agg [.int .i64 a2_0,.int .i64 a2_1,.int .i64 a2_2],.agg [.int .i64 a3_0,.int .i64 a3_1,.int .i64 a3_2],.int .i64 a4,.sl tga5 a5] [T0,T1]=ziD zbV zbK zbb za1 zb7 zb8 a0 (D.lentL a1) a2_0 a2_1 a2_2 a3_0 a3_1 a3_2 a4 (D.lentL a5) T0 T1:=ztV zbV zbK zbb za1 zb7 zb8 tga1 tga5 a0 a1 a2_0 a2_1 a2_2 a3_0 a3_1 a3_2 a4 a5 T0 T1
def zgy:Ann:={ loops:=[],ks:=[(8225,false)] }
noncomputable def zbw:Zs:=denS Tryz.prog (zax []) zgy [0] ID.disk_Disk_Pending
theorem zj8:za2 Tryz.prog ID.disk_Disk_Pending (.st [] [0] [(8225,false)] zbw):=zbg (zaA []) zbn ⟨Tryz.f60,by kernel_rfl,by kernel_rfl,by kernel_rfl⟩
noncomputable def zkL:Fact Tryz.prog:=⟨ID.disk_Disk_Pending,(.st [] [0] [(8225,false)] zbw),zj8⟩
noncomputable def ze9 (a0:Nat) (T0:Tb):Option Ans:=
 getK T0 a0 fun d1=>
 getK d1 ((1664:Nat)) fun d2=>
 zbe d2 fun l3=>
 getK T0 a0 fun d4=>
 getK d4 ((1664:Nat)) fun d5=>
 zbe d5 fun l6=>
 sif (0+l3.length≤l6.length) <|
 some (Ans.mk (.int .i64 (↑(l3.length):Int)) [] [])
theorem zn1 (a0:Nat) (T0:Tb):denS Tryz.prog (zax []) zgy [0] ID.disk_Disk_Pending [.h 8225 a0 0] [T0]=ze9 a0 T0:=by kernel_rfl
theorem zkM (a0:Nat) (T0:Tb):zbw [.h 8225 a0 0] [T0]=ze9 a0 T0:=zn1 a0 T0
def zgV:Ann:={ loops:=[] }
noncomputable def zbr:Zp:=denP Tryz.prog (zax [(ID.wattleref01_Windows,(.pure [0] zaD)),(ID.wattleref01_Rows,(.pure [0] zaQ)),(ID.wattleref01_Width,(.pure [0] zab))]) zgV [0,0] ID.wattleref01_Span
theorem zkN:za2 Tryz.prog ID.wattleref01_Span (.pure [0,0] zbr):=zam (zaA [zfe,zgv,zcb]) zbn ⟨Tryz.f41,by kernel_rfl,by kernel_rfl,by kernel_rfl⟩
noncomputable def zlT:Fact Tryz.prog:=⟨ID.wattleref01_Span,(.pure [0,0] zbr),zkN⟩
noncomputable def zfE (zaD zaQ zab:Zp) (a0_0 a0_1 a0_2 a1_0 a1_1 a1_2 a2:Int):Option D:=
 brK (decide (a2 < 0))
  (some (.tup [.int .i64 0,.int .i64 0]))
  (zan (zaD [.agg [.int .i64 a0_0,.int .i64 a0_1,.int .i64 a0_2],.agg [.int .i64 a1_0,.int .i64 a1_1,.int .i64 a1_2]]) fun r1=>
  asI .i64 r1 fun i2=>
  brK (decide (a2≥i2))
   (some (.tup [.int .i64 0,.int .i64 0]))
   (zan (zaQ [.agg [.int .i64 a0_0,.int .i64 a0_1,.int .i64 a0_2],.agg [.int .i64 a1_0,.int .i64 a1_1,.int .i64 a1_2]]) fun r3=>
   asI .i64 r3 fun i4=>
   zan (zab [.agg [.int .i64 a1_0,.int .i64 a1_1,.int .i64 a1_2]]) fun r5=>
   asI .i64 r5 fun i6=>
   letN (IntKind.i64.wrap (i4*i6)) fun n7=>
   letN (IntKind.i64.wrap (a2*n7)) fun n8=>
   letN (IntKind.i64.wrap (a2+1)) fun n9=>
   letN (IntKind.i64.wrap (n9*n7)) fun n10=>
   some (.tup [.int .i64 n8,.int .i64 n10])))
theorem zpi (zaD zaQ zab:Zp) (a0_0 a0_1 a0_2 a1_0 a1_1 a1_2 a2:Int):denP Tryz.prog (zax [(ID.wattleref01_Windows,(.pure [0] zaD)),(ID.wattleref01_Rows,(.pure [0] zaQ)),(ID.wattleref01_Width,(.pure [0] zab))]) zgV [0,0] ID.wattleref01_Span [.agg [.int .i64 a0_0,.int .i64 a0_1,.int .i64 a0_2],.agg [.int .i64 a1_0,.int .i64 a1_1,.int .i64 a1_2],.int .i64 a2]=zfE zaD zaQ zab a0_0 a0_1 a0_2 a1_0 a1_1 a1_2 a2:=by kernel_rfl
theorem zlU (a0_0 a0_1 a0_2 a1_0 a1_1 a1_2 a2:Int):zbr [.agg [.int .i64 a0_0,.int .i64 a0_1,.int .i64 a0_2],.agg [.int .i64 a1_0,.int .i64 a1_1,.int .i64 a1_2],.int .i64 a2]=zfE zaD zaQ zab a0_0 a0_1 a0_2 a1_0 a1_1 a1_2 a2:=zpi zaD zaQ zab a0_0 a0_1 a0_2 a1_0 a1_1 a1_2 a2
def zfF:Ann:={ loops:=[(1,.dead::.val (.cell (.int .i64))::.box true [(.int .i64),(.int .i64),(.int .i64)]::dd 2 [.own 1,.val (.cell (.int .i64))])] }
noncomputable def zaZ:Zp:=denP Tryz.prog (zax [(ID.wattleref01_fine,(.pure [0] zaj)),(ID.wattleref01_Width,(.pure [0] zab))]) zfF [1] ID.wattleref01_Numbers
theorem ziE:za2 Tryz.prog ID.wattleref01_Numbers (.pure [1] zaZ):=zam (zaA [zdr,zcb]) zbn ⟨Tryz.f25,by kernel_rfl,by kernel_rfl,by kernel_rfl⟩
noncomputable def zjo:Fact Tryz.prog:=⟨ID.wattleref01_Numbers,(.pure [1] zaZ),ziE⟩
noncomputable def zem (zaj zab:Zp) (a0_0 a0_1 a0_2 a1:Int):Option D:=
 zan (zaj [.agg [.int .i64 a0_0,.int .i64 a0_1,.int .i64 a0_2],.int .i64 a1]) fun r1=>
 asB r1 fun b2=>
 brK (!b2)
  (some (.sl .own []))
  (zb3 (α:=(Int×(Int×Int×Int×PUnit)×List D×Int×PUnit)×PUnit) (fun again3 ((i4,((i5,(i6,(i7,_))),(l8,(i9,_)))),_)=>
   zan (zab [.agg [.int .i64 i5,.int .i64 i6,.int .i64 i7]]) fun r10=>
   asI .i64 r10 fun i11=>
   brK (decide (i9 < i11))
    (sif (i7≠0) <|
    letN (IntKind.i64.wrap (Int.tdiv i4 i7)) fun n12=>
    zan (zab [.agg [.int .i64 i5,.int .i64 i6,.int .i64 i7]]) fun r13=>
    asI .i64 r13 fun i14=>
    letN (IntKind.i64.wrap (n12*i14)) fun n15=>
    letN (IntKind.i64.wrap (n15+i9)) fun n16=>
    letN (IntKind.i64.wrap (n16*i7)) fun n17=>
    sif (i7≠0) <|
    letN (Int.tmod i4 i7) fun n18=>
    letN (IntKind.i64.wrap (n17+n18)) fun n19=>
    sif (l8.length+1≤4294967296) <|
    sif (l8.length=l8.length) <|
    letN (IntKind.i64.wrap (i9+1)) fun n20=>
    sif (l8.length+1=List.length (l8++[D.int .i64 n19])) <|
    again3 (((i4,(i5,i6,i7,unit),l8++[.int .i64 n19],n20,unit),unit)))
    (sif (l8.length=l8.length) <|
    sif (List.all l8 D.free=true) <|
    some (.sl .own l8)))
   (((a1,(a0_0,a0_1,a0_2,unit),[],(0:Int),unit),unit)))
theorem zlV (zaj zab:Zp) (a0_0 a0_1 a0_2 a1:Int):denP Tryz.prog (zax [(ID.wattleref01_fine,(.pure [0] zaj)),(ID.wattleref01_Width,(.pure [0] zab))]) zfF [1] ID.wattleref01_Numbers [.agg [.int .i64 a0_0,.int .i64 a0_1,.int .i64 a0_2],.int .i64 a1]=zem zaj zab a0_0 a0_1 a0_2 a1:=by kernel_rfl
theorem zjp (a0_0 a0_1 a0_2 a1:Int):zaZ [.agg [.int .i64 a0_0,.int .i64 a0_1,.int .i64 a0_2],.int .i64 a1]=zem zaj zab a0_0 a0_1 a0_2 a1:=zlV zaj zab a0_0 a0_1 a0_2 a1
def zgW:Ann:={ loops:=[] }
noncomputable def zbG:Zp:=denP Tryz.prog (zax [(ID.wattleref01_Width,(.pure [0] zab)),(ID.wattleplay_Sectors,(.pure [1] zaH))]) zgW [1] ID.wattlelaw14_Data
theorem zkO:za2 Tryz.prog ID.wattlelaw14_Data (.pure [1] zbG):=zam (zaA [zcb,zfr]) zbn ⟨Tryz.f24,by kernel_rfl,by kernel_rfl,by kernel_rfl⟩
noncomputable def zlW:Fact Tryz.prog:=⟨ID.wattlelaw14_Data,(.pure [1] zbG),zkO⟩
noncomputable def zfG (zab zaH:Zp) (a0_0 a0_1 a0_2 a1:Int) (a2:List D):Option D:=
 letN (min a1 (↑(a2.length):Int)) fun n1=>
 sif (0≤n1) <|
 sif (n1≤(↑(a2.length):Int)) <|
 sif ((↑(a2.length):Int)≤(↑(a2.length):Int)) <|
 sif ((↑(a2.length):Int)=(↑(a2.length):Int)) <|
 sif (zyn (1:Nat) a2=true) <|
 zan (zab [.agg [.int .i64 a0_0,.int .i64 a0_1,.int .i64 a0_2]]) fun r2=>
 asI .i64 r2 fun i3=>
 zan (zaH [.sl (zer Tag.lent false (decide ((↑(a2.length):Int)=(↑(a2.length):Int)))) (cutI n1 (↑(a2.length):Int) a2),.int .i64 i3]) fun r4=>
 zbe r4 fun l5=>
 sif (l5.length=l5.length) <|
 sif (List.all l5 D.free=true) <|
 some (.sl .own l5)
theorem zpj (zab zaH:Zp) (tga2:Tag) (a0_0 a0_1 a0_2 a1:Int) (a2:List D):denP Tryz.prog (zax [(ID.wattleref01_Width,(.pure [0] zab)),(ID.wattleplay_Sectors,(.pure [1] zaH))]) zgW [1] ID.wattlelaw14_Data [.agg [.int .i64 a0_0,.int .i64 a0_1,.int .i64 a0_2],.int .i64 a1,.sl tga2 a2]=zfG zab zaH a0_0 a0_1 a0_2 a1 (D.lentL a2):=by kernel_rfl
theorem zlX (tga2:Tag) (a0_0 a0_1 a0_2 a1:Int) (a2:List D):zbG [.agg [.int .i64 a0_0,.int .i64 a0_1,.int .i64 a0_2],.int .i64 a1,.sl tga2 a2]=zfG zab zaH a0_0 a0_1 a0_2 a1 (D.lentL a2):=zpj zab zaH tga2 a0_0 a0_1 a0_2 a1 a2
def zfg:Ann:={ loops:=[(1,.val (.cell .lent)::.val (.cell .lent)::dd 3 [.val (.cell (.int .i64))])] }
noncomputable def zau:Zp:=denP Tryz.prog (zax []) zfg [0] ID.wattlekeep_Same_byte
theorem zhY:za2 Tryz.prog ID.wattlekeep_Same_byte (.pure [0] zau):=zam (zaA []) zbn ⟨Tryz.f22,by kernel_rfl,by kernel_rfl,by kernel_rfl⟩
noncomputable def zeU:Fact Tryz.prog:=⟨ID.wattlekeep_Same_byte,(.pure [0] zau),zhY⟩
noncomputable def zd3 (a0 a1:List D):Option D:=
 brK ((↑(a0.length):Int) != (↑(a1.length):Int))
  (some (.bool false))
  (zb3 (α:=(List D×List D×Int×PUnit)×PUnit) (fun again1 ((l2,(l3,(i4,_))),_)=>
   brK (decide (i4 < (↑(l2.length):Int)))
    (sif (0≤i4) <|
    getK l2 (i4.toNat) fun d5=>
    asI .u8 d5 fun i6=>
    sif (0≤i4) <|
    getK l3 (i4.toNat) fun d7=>
    asI .u8 d7 fun i8=>
    brK (i6 != i8)
     (some (.bool false))
     (letN (IntKind.i64.wrap (i4+1)) fun n9=>
     again1 (((l2,l3,n9,unit),unit))))
    (some (.bool true)))
   (((a0,a1,(0:Int),unit),unit)))
theorem zkP (tga0 tga1:Tag) (a0 a1:List D):denP Tryz.prog (zax []) zfg [0] ID.wattlekeep_Same_byte [.sl tga0 a0,.sl tga1 a1]=zd3 (D.lentL a0) (D.lentL a1):=by kernel_rfl
theorem ziF (tga0 tga1:Tag) (a0 a1:List D):zau [.sl tga0 a0,.sl tga1 a1]=zd3 (D.lentL a0) (D.lentL a1):=zkP tga0 tga1 a0 a1
def zgz:Ann:={ loops:=[],ks:=[(2496,true),(8225,true)] }
noncomputable def zbx:Zp:=denT Tryz.prog (zax [(ID.bench_New,(.st [] [0,0] [(2496,true),(8225,true)] zbH)),(ID.window_Read,(.st [] [1,0] [(2496,false),(8225,false)] zbh)),(ID.wattlekeep_Same_byte,(.pure [0] zau))]) zgz [0] ID.wattlelaw20_wakes
theorem zj9:za2 Tryz.prog ID.wattlelaw20_wakes (.pure [0] zbx):=zuy (zaA [zm2,zkl,zeU]) zbn ⟨Tryz.f44,by kernel_rfl,by kernel_rfl,by kernel_rfl⟩
noncomputable def zkQ:Fact Tryz.prog:=⟨ID.wattlelaw20_wakes,(.pure [0] zbx),zj9⟩
noncomputable def zfa (zbH zbh:Zs) (zau:Zp):Option D:=
 zan (zbH [.int .i64 4] [[],[]]) fun r1=>
 nilK r1.outs <|
 zeE r1.tbs fun c2 q3=>
 zeE q3 fun c4 q5=>
 nilK q5 <|
 zdP r1.r fun ts6=>
 zaz ([Lf.any,Lf.any]) ts6 fun c7=>
 sif (zhs c7.1=true) <|
 asI .i64 c7.2.1 fun i8=>
 brK (i8 != 0)
  (some (.bool false))
  (zpv c7.1 fun b9=>
  brK b9
   (some (.bool false))
   (zan (zbh [c7.1,.sl .full [.bool true,.bool true,.bool true,.bool true],.agg [.int .i64 5,.int .i64 3,.int .i64 1],.agg [.int .i64 5,.int .i64 4,.int .i64 1],.int .i64 15] [c2,c4]) fun r10=>
   nilK r10.outs <|
   nilK r10.tbs <|
   zdP r10.r fun ts11=>
   zaz ([Lf.any,Lf.any]) ts11 fun c12=>
   zbe c12.1 fun l13=>
   asI .i64 c12.2.1 fun i14=>
   brK (i14 == 0)
    (sif (0+l13.length≤l13.length) <|
    brK ((↑(l13.length):Int) == 3)
     (sif ((2:Nat) < l13.length) <|
     getK l13 ((2:Nat)) fun d15=>
     asSl d15 fun t16 l17=>
     zan (zau [.sl t16 l17,.sl .lent [.int .u8 0,.int .u8 0,.int .u8 0,.int .u8 0,.int .u8 0,.int .u8 0,.int .u8 0,.int .u8 0,.int .u8 0,.int .u8 0,.int .u8 0,.int .u8 0,.int .u8 0,.int .u8 0,.int .u8 0,.int .u8 0,.int .u8 0,.int .u8 0,.int .u8 0,.int .u8 0,.int .u8 0,.int .u8 0,.int .u8 0,.int .u8 0,.int .u8 0,.int .u8 0,.int .u8 0,.int .u8 0,.int .u8 0,.int .u8 0,.int .u8 0,.int .u8 0]]) fun r18=>
     asB r18 fun b19=>
     some (.bool b19))
     (some (.bool false)))
    (some (.bool false))))
theorem zn2 (zbH zbh:Zs) (zau:Zp):denT Tryz.prog (zax [(ID.bench_New,(.st [] [0,0] [(2496,true),(8225,true)] zbH)),(ID.window_Read,(.st [] [1,0] [(2496,false),(8225,false)] zbh)),(ID.wattlekeep_Same_byte,(.pure [0] zau))]) zgz [0] ID.wattlelaw20_wakes []=sif (D.nohL []=true) (zfa zbH zbh zau ):=by kernel_rfl
theorem zkR:zbx []=sif (D.nohL []=true) (zfa zbH zbh zau ):=zn2 zbH zbh zau
def zih:Ann:={ loops:=[],ks:=[(8225,true)] }
noncomputable def zbY:Zs:=denS Tryz.prog (zax []) zih [] ID.disk_Disk_Fail
theorem zmV:za2 Tryz.prog ID.disk_Disk_Fail (.st [] [] [(8225,true)] zbY):=zbg (zaA []) zbn ⟨Tryz.f75,by kernel_rfl,by kernel_rfl,by kernel_rfl⟩
noncomputable def zn3:Fact Tryz.prog:=⟨ID.disk_Disk_Fail,(.st [] [] [(8225,true)] zbY),zmV⟩
noncomputable def zgG (a0:Nat) (T0:Tb):Option Ans:=
 getK T0 a0 fun d1=>
 sif (1666≤d1.length) <|
 letT (za8 T0 a0 (0:Nat) (List.map D.own0 (List.set (List.reverse ([.bool false,.sl .nil []]++List.replicate 1664 (.int .u8 0))) (1665:Nat) (.bool true)))) fun U2=>
 some (Ans.mk (.tup []) [] [U2])
theorem zre (a0:Nat) (T0:Tb):denS Tryz.prog (zax []) zih [] ID.disk_Disk_Fail [.h 8225 a0 0] [T0]=zgG a0 T0:=by kernel_rfl
theorem zn4 (a0:Nat) (T0:Tb):zbY [.h 8225 a0 0] [T0]=zgG a0 T0:=zre a0 T0
def zgX:Ann:={ loops:=[],ks:=[(2496,false),(8225,true)] }
noncomputable def zbs:Zs:=denS Tryz.prog (zax [(ID.bench_Bench_is,(.st [] [0] [(2496,false)] zas)),(ID.disk_Disk_Fail,(.st [] [] [(8225,true)] zbY))]) zgX [0] ID.bench_Bench_Fail
theorem zkS:za2 Tryz.prog ID.bench_Bench_Fail (.st [] [0] [(2496,false),(8225,true)] zbs):=zbg (zaA [zdQ,zn3]) zbn ⟨Tryz.f34,by kernel_rfl,by kernel_rfl,by kernel_rfl⟩
noncomputable def zlY:Fact Tryz.prog:=⟨ID.bench_Bench_Fail,(.st [] [0] [(2496,false),(8225,true)] zbs),zkS⟩
noncomputable def zfH (zas zbY:Zs) (a0:Nat) (a1:Int) (T0 T1:Tb):Option Ans:=
 zan (zas [.h 2496 a0 0,.int .i64 a1] [T0]) fun r1=>
 nilK r1.outs <|
 nilK r1.tbs <|
 asB r1.r fun b2=>
 brK (!b2)
  (some (Ans.mk (.int .i64 1) [] [T1]))
  (getK T0 a0 fun d3=>
  getK d3 ((3:Nat)) fun d4=>
  zbe d4 fun l5=>
  getK T0 a0 fun d6=>
  getK d6 ((3:Nat)) fun d7=>
  zbe d7 fun l8=>
  sif (0≤a1) <|
  sif (a1.toNat < l5.length) <|
  getK T0 a0 fun d9=>
  getK d9 ((3:Nat)) fun d10=>
  zbe d10 fun l11=>
  getK l11 (0+a1.toNat) fun d12=>
  sif (D.isAgg d12=false) <|
  sif (D.width d12=(1:Nat)) <|
  sif (D.cell d12=true) <|
  zan (zbY [d12] [T1]) fun r13=>
  nilK r13.outs <|
  zeE r13.tbs fun c14 q15=>
  nilK q15 <|
  zdP r13.r fun ts16=>
  nilK ts16 <|
  some (Ans.mk (.int .i64 0) [] [c14]))
theorem zpk (zas zbY:Zs) (a0:Nat) (a1:Int) (T0 T1:Tb):denS Tryz.prog (zax [(ID.bench_Bench_is,(.st [] [0] [(2496,false)] zas)),(ID.disk_Disk_Fail,(.st [] [] [(8225,true)] zbY))]) zgX [0] ID.bench_Bench_Fail [.h 2496 a0 0,.int .i64 a1] [T0,T1]=zfH zas zbY a0 a1 T0 T1:=by kernel_rfl
theorem zlZ (a0:Nat) (a1:Int) (T0 T1:Tb):zbs [.h 2496 a0 0,.int .i64 a1] [T0,T1]=zfH zas zbY a0 a1 T0 T1:=zpk zas zbY a0 a1 T0 T1
def zfI:Ann:={ loops:=[(0,dd 3 (.val (.cell (.int .i64))::dd 5 [.view 2496 3,.val (.cell (.int .i64)),.val (.cell (.int .i64))]))],ks:=[(2496,false),(8225,false)] }
noncomputable def za7:Zs:=denS Tryz.prog (zax [(ID.disk_Disk_Pending,(.st [] [0] [(8225,false)] zbw))]) zfI [0] ID.bench_Bench_Pending
theorem ziG:za2 Tryz.prog ID.bench_Bench_Pending (.st [] [0] [(2496,false),(8225,false)] za7):=zbg (zaA [zkL]) zbn ⟨Tryz.f26,by kernel_rfl,by kernel_rfl,by kernel_rfl⟩
noncomputable def zjq:Fact Tryz.prog:=⟨ID.bench_Bench_Pending,(.st [] [0] [(2496,false),(8225,false)] za7),ziG⟩
noncomputable def zen (zbw:Zs) (a0:Nat) (T0 T1:Tb):Option Ans:=
 getK T0 a0 fun d1=>
 getK d1 ((3:Nat)) fun d2=>
 zbe d2 fun l3=>
 getK T0 a0 fun d4=>
 getK d4 ((3:Nat)) fun d5=>
 zbe d5 fun l6=>
 sif (0+l3.length≤l6.length) <|
 zb3 (α:=(Int×(Nat×Nat×Nat)×Int×Int×PUnit)×List (List D)×List (List D)×PUnit) (fun again7 ((i8,((x9,(x10,x11)),(i12,(i13,_)))),(U14,(U15,_)))=>
  brK (decide (i13 < i12))
   (getK U14 x9 fun d16=>
   getK d16 ((3:Nat)) fun d17=>
   zbe d17 fun l18=>
   sif (0≤i13) <|
   sif (i13.toNat < x11) <|
   getK U14 x9 fun d19=>
   getK d19 ((3:Nat)) fun d20=>
   zbe d20 fun l21=>
   getK l21 (x10+i13.toNat) fun d22=>
   sif (D.isAgg d22=false) <|
   sif (D.width d22=(1:Nat)) <|
   sif (D.cell d22=true) <|
   zan (zbw [d22] [U15]) fun r23=>
   nilK r23.outs <|
   nilK r23.tbs <|
   asI .i64 r23.r fun i24=>
   letN (IntKind.i64.wrap (i8+i24)) fun n25=>
   letN (IntKind.i64.wrap (i13+1)) fun n26=>
   again7 (((n25,(x9,x10,x11),i12,n26,unit),U14,U15,unit)))
   (some (Ans.mk (.int .i64 i8) [] [])))
  ((((0:Int),(a0,(0:Nat),l3.length),(↑(l3.length):Int),(0:Int),unit),T0,T1,unit))
theorem zl0 (zbw:Zs) (a0:Nat) (T0 T1:Tb):denS Tryz.prog (zax [(ID.disk_Disk_Pending,(.st [] [0] [(8225,false)] zbw))]) zfI [0] ID.bench_Bench_Pending [.h 2496 a0 0] [T0,T1]=zen zbw a0 T0 T1:=by kernel_rfl
theorem zjr (a0:Nat) (T0 T1:Tb):za7 [.h 2496 a0 0] [T0,T1]=zen zbw a0 T0 T1:=zl0 zbw a0 T0 T1
end Wf

namespace Wf
open Go Go.RowKit Go.Proofs
set_option linter.unusedSimpArgs false
set_option linter.unusedVariables false
theorem zxR (c:Int):zaV [.sl .full [.int .i64 1,.int .i64 2,.int .i64 4],.int .i64 c]=some (.bool (c == 1 || c == 2 || c == 4)):=by
 rw [zg6];unfold zdw;rw [zir];unfold zd2;obtain ⟨m,hm⟩:=zxw
 by_cases h1:c=1<;>by_cases h2:c=2<;>by_cases h4:c=4<;>
  simp [zb3,hm,fixN,zbZ,h1,h2,h4,zah]<;>omega
theorem zgd (l d c:Int):zao [gD l d c]=some (iD (if zdL l d c then 0 else 1)):=by
 rw [zsL];unfold zlv;have hc:=zxR c;unfold zdL;obtain ⟨q,hq⟩:∃ q,(c == 1 || c == 2 || c == 4)=q:=⟨_,rfl⟩;rw [hq] at hc ⊢
 by_cases h5:l=5
 ·subst h5
  by_cases h3:d < 3<;>by_cases h8:8 < d<;>cases q<;>simp [zk4,zhh,setD,hc,zbZ,h3,h8]<;>omega
 ·by_cases h6:l=6
  ·subst h6
   by_cases h3:d < 4<;>by_cases h8:8 < d<;>cases q<;>simp [zk4,zhh,setD,hc,zbZ,h3,h8]<;>omega
  ·simp [zk4,zhh,setD,hc,zbZ,h5,h6]
theorem zs7 (l d c:Int):zbq [gD l d c]=some (iD (znw l d c)):=by
 rw [zqX];unfold zjW znw;rw [zgd];cases h:zdL l d c
 ·simp [zbZ]
 ·have:=zfo.1 h;simp [zbZ]
  exact zah (by omega) (by omega)
theorem zmm (l d c:Int):zae [gD l d c]=some (iD (zhx l d c)):=by
 rw [zsM];unfold zlx zhx;rw [zgd,zs7];unfold znw;cases h:zdL l d c
 ·simp [zbZ]
 ·have:=zfo.1 h;simp [zbZ]
  exact zah (by omega) (by omega)
theorem zwh (l d c:Int):zaW [gD l d c]=some (iD (capG l d c)):=by
 rw [zoY];unfold zhH capG;rw [zmm];have:=zEw l d c;simp
 exact zah (by omega) (by omega)
theorem zl1 (l d c:Int):zai [gD l d c]=some (.bool (zdL l d c)):=by
 rw [zks];unfold ze1 zdL
 by_cases h5:l=5
 ·subst h5
  by_cases h3:3≤d<;>by_cases h8:d≤8<;>simp [zbZ,h3,h8]<;>by_cases h1:c=1<;>by_cases h2:c=2<;>simp [h1,h2]<;>omega
 ·by_cases h6:l=6
  ·subst h6
   by_cases h3:4≤d<;>by_cases h8:d≤8<;>simp [zbZ,h3,h8]<;>by_cases h1:c=1<;>by_cases h2:c=2<;>simp [h1,h2]<;>omega
  ·simp [zbZ,h5,h6]
theorem zuO (l d c:Int):zaG [gD l d c]=some (iD (znw l d c)):=by
 rw [zjK];unfold zeF znw;rw [zl1];cases h:zdL l d c
 ·simp [zbZ]
 ·have:=zfo.1 h;simp [zbZ]
  exact zah (by omega) (by omega)
theorem zs8 (l d c:Int):zab [gD l d c]=some (iD (zhx l d c)):=by
 rw [zkt];unfold ze2 zhx;rw [zl1,zuO];unfold znw;cases h:zdL l d c
 ·simp [zbZ]
 ·have:=zfo.1 h;simp [zbZ]
  exact zah (by omega) (by omega)
theorem zAi (a n:Int) (h:1≤n) (h9:n < 1000000000):zac [.int .i64 a,.int .i64 n]=some (iD (a % n)):=by
 rw [zkr];unfold ze0;have hm:=zA4 a n h
 have hlt:=Int.lt_tmod_of_pos a (show 0 < n by omega)
 have h1:¬ n < 1:=by omega
 have h0:n≠0:=by omega
 rcases hm with ⟨k1,k2⟩ | ⟨k1,k2⟩
 ·simp [zbZ,h1,h0,Int.not_lt.2 k1,k2]
 ·simp [zbZ,h1,h0,k1,k2]
  exact zah (by omega) (by omega)
theorem zjs (g:Geo):zae [gD g.l g.d g.c]=some (iD g.width):=zmm ..
theorem zCY (g:Geo):zaW [gD g.l g.d g.c]=some (iD g.cap):=zwh ..
theorem zmn (g:Geo):zab [gD g.l g.d g.c]=some (iD g.width):=zs8 ..
section
variable (a b c x y z k:Int)
end
section
variable (g:Geo) (a row k:Int)
theorem zwi:zbz [g.D,.int .i64 row]=some (.bool (zcv g row)):=by
 unfold Geo.D;rw [zvW];unfold zpT;rw [zgd];unfold zcv Geo.ok;cases zdL g.l g.d g.c<;>simp [zbZ]<;>(by_cases h:0≤row<;>simp [h])
theorem zrs:zaj [g.D,.int .i64 row]=some (.bool (zcv g row)):=by
 unfold Geo.D;rw [zlk];unfold zfs;rw [zl1];unfold zcv Geo.ok;cases zdL g.l g.d g.c<;>simp [zbZ]<;>(by_cases h:0≤row<;>simp [h])
theorem zxS:zaN [g.D,.int .i64 row]=some (.tup [iD (parP g row).1,iD (parP g row).2]):=by
 have hi:=zwi g row;unfold Geo.D at*;rw [zpU];unfold ziv;rw [hi];unfold parP;cases h:zcv g row
 ·simp [zbZ]
 ·obtain ⟨hk,h0,h1⟩:=zbm.1 h;have hd:=ok_d hk;have hv:=zGN hk h0;have hp:=zm1 hk row
  have w1:IntKind.i64.wrap (g.d - 1)=g.d - 1:=zah (by omega) (by omega)
  have w2:IntKind.i64.wrap (row.tdiv g.c)=row / g.c:=by rw [zAe hk h0]; exact zah (by omega) (by omega)
  have w3:IntKind.i64.wrap (g.d - 1 - (row / g.c).tmod g.d)=parA g row:=by rw [zoF hv.1]; exact zah (by unfold parA at hp; omega) (by unfold parA at hp; omega)
  have w4:IntKind.i64.wrap (parA g row+1)=parA g row+1:=zah (by omega) (by omega)
  have t4:(parA g row+1).tmod g.d=(parA g row+1) % g.d:=zoF (by omega)
  by_cases h5:g.l=5
  ·simp [zbZ,show g.c≠0 by omega,show g.d≠0 by omega,w1,w2,w3,h5]
  ·simp [zbZ,show g.c≠0 by omega,show g.d≠0 by omega,w1,w2,w3,h5,w4,t4]
theorem zCZ:zaE [g.D,.int .i64 row]=some (.tup [iD (parP g row).1,iD (parP g row).2]):=by
 have hi:=zrs g row;unfold Geo.D at*;rw [zjO];unfold zeI;rw [hi];unfold parP;cases h:zcv g row
 ·simp [zbZ]
 ·obtain ⟨hk,h0,h1⟩:=zbm.1 h;have hd:=ok_d hk;have hv:=zGN hk h0;have hp:=zm1 hk row
  have w1:IntKind.i64.wrap (g.d - 1)=g.d - 1:=zah (by omega) (by omega)
  have w2:IntKind.i64.wrap (row.tdiv g.c)=row / g.c:=by rw [zAe hk h0]; exact zah (by omega) (by omega)
  have w3:IntKind.i64.wrap (g.d - 1 - (row / g.c).tmod g.d)=parA g row:=by rw [zoF hv.1]; exact zah (by unfold parA at hp; omega) (by unfold parA at hp; omega)
  have w4:IntKind.i64.wrap (parA g row+1)=parA g row+1:=zah (by omega) (by omega)
  have t4:(parA g row+1).tmod g.d=(parA g row+1) % g.d:=zoF (by omega)
  by_cases h5:g.l=5
  ·simp [zbZ,show g.c≠0 by omega,show g.d≠0 by omega,w1,w2,w3,h5]
  ·simp [zbZ,show g.c≠0 by omega,show g.d≠0 by omega,w1,w2,w3,h5,w4,t4]
theorem zuP:zaY [g.D,.int .i64 row,.int .i64 k]=some (iD (zc7 g row k)):=by
 have hi:=zwi g row;have hp:=zxS g row;unfold Geo.D at*;rw [zsR];unfold zlA;rw [hi,hp,zjs,zs7];unfold zc7;cases h:zcv g row
 ·simp [zbZ]
 ·obtain ⟨hk,h0,h1⟩:=zbm.1 h;have hd:=ok_d hk;have hw:=zbL hk;have hb:=zxy hk;have hl:=zdE.1 hk;have hpa:=zm1 hk row
  by_cases k0:k < 0
  ·simp [zbZ,k0,show ¬ 0≤k by omega]
  ·by_cases k1:g.width≤k
   ·simp [zbZ,k0,k1,show ¬ k < g.width by omega]
   ·have w1:IntKind.i64.wrap (parA g row+(g.l - 4))=parA g row+(g.l - 4):=zah (by omega) (by omega)
    have w2:IntKind.i64.wrap (parA g row+(g.l - 4)+k)=parA g row+(g.l - 4)+k:=zah (by omega) (by omega)
    have t2:(parA g row+(g.l - 4)+k).tmod g.d=(parA g row+(g.l - 4)+k) % g.d:=zoF (by omega)
    have hp1:(parP g row).1=parA g row:=by unfold parP; simp [h]
    simp [zbZ,k0,k1,show 0≤k by omega,show k < g.width by omega,hb,hp1,w1,w2,t2,show g.d≠0 by omega]
theorem zEK:zbp [g.D,.int .i64 row,.int .i64 k]=some (iD (zc7 g row k)):=by
 have hi:=zrs g row;have hp:=zCZ g row;unfold Geo.D at*;rw [zlm];unfold zfu;rw [hi,hp,zmn,zuO];unfold zc7;cases h:zcv g row
 ·simp [zbZ]
 ·obtain ⟨hk,h0,h1⟩:=zbm.1 h;have hd:=ok_d hk;have hw:=zbL hk;have hb:=zxy hk;have hl:=zdE.1 hk;have hpa:=zm1 hk row
  by_cases k0:k < 0
  ·simp [zbZ,k0,show ¬ 0≤k by omega]
  ·by_cases k1:g.width≤k
   ·simp [zbZ,k0,k1,show ¬ k < g.width by omega]
   ·have w1:IntKind.i64.wrap (parA g row+(g.l - 4))=parA g row+(g.l - 4):=zah (by omega) (by omega)
    have w2:IntKind.i64.wrap (parA g row+(g.l - 4)+k)=parA g row+(g.l - 4)+k:=zah (by omega) (by omega)
    have t2:(parA g row+(g.l - 4)+k).tmod g.d=(parA g row+(g.l - 4)+k) % g.d:=zoF (by omega)
    have hp1:(parP g row).1=parA g row:=by unfold parP; simp [h]
    simp [zbZ,k0,k1,show 0≤k by omega,show k < g.width by omega,hb,hp1,w1,w2,t2,show g.d≠0 by omega]
theorem zEL:zc9 [g.D,.int .i64 a]=some (ofD (ofP g a)):=by
 have hdk:=fun row k=>zuP g row k
 unfold Geo.D at*;rw [zvY];unfold zpV;rw [zjs,zCY];unfold ofP ofD
 by_cases h0:a < 0
 ·simp [zbZ,h0,show ¬ 0≤a by omega]
 ·by_cases h1:g.cap≤a
  ·simp [zbZ,h0,h1,show ¬ a < g.cap by omega]
  ·have h0:0≤a:=by omega
   have h1:a < g.cap:=by omega
   have hk:=zuF h0 h1;have hd:=ok_d hk;have hw:=zbL hk;have hv:=zGN hk h0;have hr:=zrq h0 h1;have hca:g.cap=g.width*16:=rfl;have hvw:a / g.c / g.width≤a / g.c:=Int.ediv_le_self _ hv.1
   have w1:IntKind.i64.wrap (a.tdiv g.c)=a / g.c:=by rw [zAe hk h0]; exact zah (by omega) (by omega)
   have w2:IntKind.i64.wrap ((a / g.c).tdiv g.width)=a / g.c / g.width:=by rw [Int.tdiv_eq_ediv_of_nonneg hv.1]; exact zah (by omega) (by omega)
   have hm:0≤a / g.c / g.width*g.c:=Int.mul_nonneg hr.2.2.1 (by omega)
   have w3:IntKind.i64.wrap (a / g.c / g.width*g.c)=a / g.c / g.width*g.c:=zah (by omega) (by omega)
   have w4:IntKind.i64.wrap (a / g.c / g.width*g.c+a.tmod g.c)=rowG g a:=by rw [zoF h0]; exact zah (by omega) (by omega)
   have t5:(a / g.c).tmod g.width=zdq g a:=zoF hv.1
   simp [zbZ,h0,h1,show ¬ a < 0 by omega,show ¬ g.cap≤a by omega,w1,w2,w3,w4,t5,show g.c≠0 by omega,show g.width≠0 by omega,hdk]
end
section
variable (l d c a row k:Int)
end
section
variable (g:Geo) (row k:Int)
theorem zxT (h:zcv g row=true) (k0:0≤k) (k1:k≤8):zcg [gD g.l g.d g.c,.int .i64 row,.int .i64 k]=some (iD (numP g row k)):=by
 obtain ⟨hk,h0,h1⟩:=zbm.1 h;obtain ⟨w1,w2,w3,w4,w5⟩:=zCS hk h0 h1 k0 k1;have hd:=ok_d hk;rw [zp6];unfold ziz;rw [zjs]
 simp [show g.c≠0 by omega,w1,w2,w3,w4,w5]
theorem zBd:za1 [g.D,.int .i64 row]=some (.sl .own (zoG g row)):=by
 have hi:=zwi g row;unfold Geo.D at*;rw [zpe];unfold zhQ;rw [hi,zjs];unfold zoG;cases h:zcv g row
 ·simp [zbZ]
 ·obtain ⟨hk,h0,h1⟩:=zbm.1 h;have hw:=zbL hk;simp only [zad,zch,zbZ,iD,za3,Bool.not_true,Bool.false_eq_true,if_false,if_true]
  refine zfZ (fun a=>(g.width - a.1.2.2.2.2.1).toNat) (fun _=>some (D.sl Tag.own (numD g row g.width.toNat))) (fun a=>∃ n:Nat,n≤g.width∧
   a=((row,(g.l,g.d,g.c,PUnit.unit),numD g row n,g.width,(n:Int),PUnit.unit),PUnit.unit)) ?_ ⟨0,by omega,rfl⟩ ?_
  rotate_left
  ·simp; omega
  rintro again _ ⟨n,hn,rfl⟩ ih
  dsimp only
  by_cases hl:(n:Int) < g.width
  ·have:=ih _ ⟨n+1,by omega,rfl⟩ (by dsimp only; omega)
   have wn:IntKind.i64.wrap ((n:Int)+1)=(n:Int)+1:=zah (by omega) (by omega)
   rw [zxz] at this
   simp [hl,zxT g row n h (by omega) (by omega),zfp,wn,show n+1≤4294967296 by omega]
   simpa using this
  ·have hnw:g.width.toNat=n:=by omega
   simp only [hl,decide_false,hnw,Bool.false_eq_true,if_false];simp [zfp,zxA]
theorem zEM:zaZ [g.D,.int .i64 row]=some (.sl .own (zoG g row)):=by
 have hi:=zrs g row;unfold Geo.D at*;rw [zjp];unfold zem;rw [hi];unfold zoG;cases h:zcv g row
 ·simp [zbZ]
 ·obtain ⟨hk,h0,h1⟩:=zbm.1 h;have hw:=zbL hk;have hd:=ok_d hk;simp only [zad,zch,zbZ,iD,za3,Bool.not_true,Bool.false_eq_true,if_false,if_true]
  refine zfZ (fun a=>(g.width - a.1.2.2.2.1).toNat) (fun _=>some (D.sl Tag.own (numD g row g.width.toNat))) (fun a=>∃ n:Nat,n≤g.width∧
   a=((row,(g.l,g.d,g.c,PUnit.unit),numD g row n,(n:Int),PUnit.unit),PUnit.unit)) ?_ ⟨0,by omega,rfl⟩ ?_
  rotate_left
  ·simp; omega
  rintro again _ ⟨n,hn,rfl⟩ ih
  dsimp only;rw [zmn]
  by_cases hl:(n:Int) < g.width
  ·have:=ih _ ⟨n+1,by omega,rfl⟩ (by dsimp only; omega)
   have wn:IntKind.i64.wrap ((n:Int)+1)=(n:Int)+1:=zah (by omega) (by omega)
   obtain ⟨w1,w2,w3,w4,w5⟩:=zCS hk h0 h1 (show 0≤(n:Int) by omega) (by omega)
   rw [zxz] at this
   simp [hl,w1,w2,w3,w4,w5,zfp,wn,show n+1≤4294967296 by omega,show g.c≠0 by omega]
   simpa using this
  ·have hnw:g.width.toNat=n:=by omega
   simp only [hl,decide_false,hnw,Bool.false_eq_true,if_false,zad,iD,za3];simp [zfp,zxA]
end
section
variable (l d c row k:Int)
end
end Wf

namespace Wf
open Go Go.RowKit Go.Proofs
set_option linter.unusedSimpArgs false
set_option linter.unusedVariables false
theorem zEN (l d c x y z:Int):zdl [gD l d c,gD x y z]=some (.bool (canG l d c x y z)):=by
 rw [zvV];unfold zpR canG;rw [zgd,zgd,zmm,zmm];cases h:zdL l d c<;>cases k:zdL x y z<;>simp [zbZ]
 by_cases h1:l=x<;>by_cases h2:d=y<;>by_cases h3:c=z<;>by_cases h4:d≤y<;>by_cases h5:l≤x<;>simp [h1,h2,h3,h4,h5]<;>omega
theorem zza (l d c x y z:Int):zay [gD l d c,gD x y z]=some (.bool (canG l d c x y z)):=by
 rw [zmx];unfold zf1 canG;rw [zl1,zl1,zs8,zs8];cases h:zdL l d c<;>cases k:zdL x y z<;>simp [zbZ]
 by_cases h1:l=x<;>by_cases h2:d=y<;>by_cases h3:c=z<;>by_cases h4:d≤y<;>by_cases h5:l≤x<;>simp [h1,h2,h3,h4,h5]<;>omega
theorem zC0 (m n:Int):∃ x y:Geo,zbN [.int .i64 m,.int .i64 n]=some (.tup [x.D,y.D])∧x.can y=true∧x.d≤5∧y.d≤8:=by
 rw [zmz];unfold zf2;have e2:IntKind.i64.wrap (m.tdiv 2)=qn m 2:=rfl;have e6:IntKind.i64.wrap (m.tdiv 6)=qn m 6:=rfl;have e3:IntKind.i64.wrap (n.tdiv 3)=qn n 3:=rfl;have e9:IntKind.i64.wrap (n.tdiv 9)=qn n 9:=rfl
 have w3:IntKind.i64.wrap (3+m % 2)=3+m % 2:=zah (by omega) (by omega)
 have w4:IntKind.i64.wrap (4+m % 2)=4+m % 2:=zah (by omega) (by omega)
 have w31:IntKind.i64.wrap (3+m % 2+1)=3+m % 2+1:=zah (by omega) (by omega)
 have w3n:IntKind.i64.wrap (3+m % 2+n % 3)=3+m % 2+n % 3:=zah (by omega) (by omega)
 have w4n:IntKind.i64.wrap (4+m % 2+n % 3)=4+m % 2+n % 3:=zah (by omega) (by omega)
 have w3n1:IntKind.i64.wrap (3+m % 2+n % 3+1)=3+m % 2+n % 3+1:=zah (by omega) (by omega)
 have w4n1:IntKind.i64.wrap (4+m % 2+n % 3+1)=4+m % 2+n % 3+1:=zah (by omega) (by omega)
 have wmx:IntKind.i64.wrap (max (3+m % 2+n % 3) (3+m % 2+1)+1)=max (3+m % 2+n % 3) (3+m % 2+1)+1:=zah (by omega) (by omega)
 have h0:0≤qn m 2 % 3:=by omega
 have h3:qn m 2 % 3 < 3:=by omega
 have k0:0≤qn n 3 % 3:=by omega
 have k3:qn n 3 % 3 < 3:=by omega
 simp only [zAi _ _ (show (1:Int)≤2 by decide) (show (2:Int) < 1000000000 by decide),zAi _ _ (show (1:Int)≤3 by decide) (show (3:Int) < 1000000000 by decide),zAi _ _ (show (1:Int)≤4 by decide) (show (4:Int) < 1000000000 by decide),
  zad,iD,za3,zaF,e2,e6,e3,e9,w3,w4,w31,w3n,w4n,w3n1,w4n1,wmx,zaa h0,zaa k0,zAc _ h0 h3,zAc _ k0 k3,zza,zch]
 obtain ⟨a,ha⟩:∃ a,(if qn m 2 % 3=0 then (1:Int) else if qn m 2 % 3=1 then 2 else 4)=a:=⟨_,rfl⟩
 obtain ⟨b,hb⟩:∃ a,(if qn n 3 % 3=0 then (1:Int) else if qn n 3 % 3=1 then 2 else 4)=a:=⟨_,rfl⟩
 have ha':a=1∨a=2∨a=4:=by rw [←ha]; (repeat' split)<;>simp
 have hb':b=1∨b=2∨b=4:=by rw [←hb]; (repeat' split)<;>simp
 rw [ha,hb]
 have hm:m % 2=0∨m % 2=1:=by omega
 have hn:n % 3=0∨n % 3=1∨n % 3=2:=by omega
 clear e2 e6 e3 e9 w3 w4 w31 w3n w4n w3n1 w4n1 wmx h0 h3 k0 k3 ha hb;generalize m % 2=p at*;generalize n % 3=q at*;generalize qn m 6 % 4=s1 at*;generalize qn n 9 % 2=s2 at*
 have key:∀ (l l' d d':Int),3≤d→d≤5→d≤d'→d'≤7→(l=5∨l=6∧4≤d)→(l'=l∨l=5∧l'=6∧d < d')→
   ∃ x y:Geo,brK (!canG l d a l' d' b) (some (D.tup [gD l d a,gD l' (d'+1) b])) (some (D.tup [gD l d a,gD l' d' b]))=some (.tup [x.D,y.D])∧x.can y=true∧x.d≤5∧y.d≤8:=by
  intro l l' d d' h1 h2 h3 h4 h5 h6
  have v1:zdL l d a=true:=by rw [zfo]; omega
  have v2:zdL l' d' b=true:=by rw [zfo]; omega
  have v3:zdL l' (d'+1) b=true:=by rw [zfo]; omega
  cases hc:canG l d a l' d' b
  ·refine ⟨⟨l,d,a⟩,⟨l',d'+1,b⟩,rfl,zjG.2 ⟨v1,v3,?_,?_,?_,?_⟩,h2,by dsimp only; omega⟩
   ·simp only [ne_eq,Geo.mk.injEq]; omega
   ·dsimp only; omega
   ·dsimp only; omega
   ·simp only [zhx,v1,v3,if_true]; omega
  ·exact ⟨⟨l,d,a⟩,⟨l',d',b⟩,rfl,hc,h2,by dsimp only; omega⟩
 by_cases q1:s1=3
 ·rw [show (s1 == 3)=true from by simp [q1],zaX]
  have:=key 6 6 (4+p) (4+p+q) (by omega) (by omega) (by omega) (by omega) (by omega) (by omega)
  exact this
 ·rw [show (s1 == 3)=false from by simpa using q1,zaq]
  by_cases q2:s2=1
  ·rw [show (s2 == 1)=true from by simp [q2],zaX]
   have:=key 5 6 (3+p) (max (3+p+q) (3+p+1)) (by omega) (by omega) (by omega) (by omega) (by omega) (by omega)
   exact this
  ·rw [show (s2 == 1)=false from by simpa using q2,zaq]
   have:=key 5 5 (3+p) (3+p+q) (by omega) (by omega) (by omega) (by omega) (by omega) (by omega)
   exact this
theorem zs9 (x y:Geo):zbb [x.D,y.D]=some (iD (zaS x y)):=by
 unfold Geo.D;rw [ztz];unfold znK;rw [zEN];show zan (some (D.bool (x.can y))) _=_;cases h:x.can y
 ·simp [zbZ,znx h]
 ·simp [zbZ,zlh h]
theorem zqO (x y:Geo):zba [x.D,y.D]=some (iD (winP x y)):=by
 have hr:=zs9 x y;unfold Geo.D at*;rw [zpS];unfold ziu;rw [hr];cases h:x.can y
 ·simp [zbZ,znx h]
 ·obtain ⟨h1,h2⟩:=zlh h;obtain ⟨h3,h4,h5⟩:=zxx h;rw [h3];rcases h2 with e | e | e<;>rw [e]<;>simp [zbZ]<;>rfl
theorem zC1 (x y:Geo) (k:Int):zbV [x.D,y.D,.int .i64 k]=some (.tup [iD (zbC x y k).1,iD (zbC x y k).2]):=by
 have hr:=zs9 x y;have hw:=zqO x y;unfold Geo.D at*;rw [ztB];unfold znL zbC;rw [hr,hw,zjs]
 by_cases h0:k < 0
 ·simp [h0]
 ·by_cases h1:winP x y≤k
  ·simp [h0,h1]
  ·have hc:x.can y=true:=by
    cases h:x.can y
    ·have:=(znx h).2; omega
    ·rfl
   obtain ⟨w1,w2,w3,w4,_,_⟩:=zAd hc (by omega) (show k≤winP x y by omega)
   simp [h0,h1,w1,w2,w3,w4]
theorem zC2 (a b:Int) (ha:a=1∨a=2∨a=4) (hb:b=1∨b=2∨b=4):zbt [.int .i64 a,.int .i64 b]=some (iD (max a b)):=by
 rw [zkC];unfold ze5;obtain ⟨m,hm⟩:=zxw;rcases ha with rfl | rfl | rfl<;>rcases hb with rfl | rfl | rfl<;>simp [zb3,hm,fixN,zbZ,zah]<;>rfl
theorem zAj (x y:Geo):zaQ [x.D,y.D]=some (iD (zaS x y)):=by
 unfold Geo.D;rw [zlt];unfold zfy;rw [zza];show zan (some (D.bool (x.can y))) _=_;cases h:x.can y
 ·simp [zbZ,znx h]
 ·rw [zC2 _ _ (zdE.1 (zjG.1 h).1).2.2 (zdE.1 (zjG.1 h).2.1).2.2];simp [zbZ,zlh h]
theorem zta (x y:Geo):zaD [x.D,y.D]=some (iD (winP x y)):=by
 have hr:=zAj x y;unfold Geo.D at*;rw [zjd];unfold zeh;rw [hr,zza];show zan (some (D.bool (x.can y))) _=_;cases h:x.can y
 ·simp [zbZ,znx h]
 ·obtain ⟨h1,h2⟩:=zlh h;obtain ⟨h3,h4,h5⟩:=zxx h;rw [h3];rcases h2 with e | e | e<;>rw [e]<;>simp [zbZ]<;>rfl
theorem zEO (x y:Geo) (k:Int):zbr [x.D,y.D,.int .i64 k]=some (.tup [iD (zbC x y k).1,iD (zbC x y k).2]):=by
 have hr:=zAj x y;have hw:=zta x y;unfold Geo.D at*;rw [zlU];unfold zfE zbC;rw [hr,hw,zmn]
 by_cases h0:k < 0
 ·simp [h0]
 ·by_cases h1:winP x y≤k
  ·simp [h0,h1]
  ·have hc:x.can y=true:=by
    cases h:x.can y
    ·have:=(znx h).2; omega
    ·rfl
   obtain ⟨w1,w2,w3,w4,_,_⟩:=zAd hc (by omega) (show k≤winP x y by omega)
   simp [h0,h1,w1,w2,w3,w4]
end Wf

namespace Wf
open Go Go.RowKit Go.Proofs
set_option linter.unusedSimpArgs false
set_option linter.unusedVariables false
theorem ztb (a n:Int) (h:1≤n) (h9:n < 1000000000):zac [.int .i64 a,.int .i64 n]=some (.int .i64 (a % n)):=zAi a n h h9
theorem ztc (t t':Tag) (l m:List Int) (hl:l.length < 1000000000):zau [.sl t (uL l),.sl t' (uL m)]=some (.bool (decide (l=m))):=by
 rw [ziF,zdi,zdi];unfold zd3
 by_cases hlen:l.length=m.length
 ·simp only [zdz,hlen,bne_self_eq_false,zaq]
  refine zfZ (fun a=>(m.length:Int).toNat - a.1.2.2.1.toNat) (fun _=>some (D.bool (decide (l=m))))
   (fun a=>∃ k:Nat,k≤m.length∧l.take k=m.take k∧a=((uL l,uL m,(k:Int),PUnit.unit),PUnit.unit)) ?_ ⟨0,by omega,by simp,rfl⟩ (by simp; omega)
  rintro again _ ⟨k,hk,he,rfl⟩ hag
  dsimp only;rw [zdz,hlen]
  by_cases hkm:k < m.length
  ·have h1:l[k]? =some l[k]:=List.getElem?_eq_getElem (by omega)
   have h2:m[k]? =some m[k]:=List.getElem?_eq_getElem hkm
   have hd:decide ((k:Int) < (m.length:Int))=true:=by simp; omega
   rw [hd,zaX,zaa (by omega),zal (by simpa using zkd h1),za3,zaa (by omega),zal (by simpa using zkd h2),za3]
   by_cases hx:l[k]=m[k]
   ·have hb:(l[k] != m[k])=false:=by simp [hx]
    rw [hb,zaq,zaF,zah (by omega) (by omega)]
    exact hag _ ⟨k+1,by omega,by rw [List.take_add_one,List.take_add_one,he,h1,h2,hx],rfl⟩ (by simp; omega)
   ·have hb:(l[k] != m[k])=true:=by simp [hx]
    rw [hb,zaX];congr 2;symm;simp;intro e;subst e;exact hx rfl
  ·have hd:decide ((k:Int) < (m.length:Int))=false:=by simp; omega
   rw [hd,zaq]
   have:l=m:=by
    have e1:l.take k=l:=List.take_of_length_le (by omega)
    have e2:m.take k=m:=List.take_of_length_le (by omega)
    rw [←e1,←e2,he]
   simp [this]
 ·have hb:((l.length:Int) != (m.length:Int))=true:=by simp; omega
  simp only [zdz,hb,zaX];congr 2;symm;simp;intro e; subst e; exact hlen rfl
theorem zd0 {R:Type} (a:Int) {b:List Int} (h:b.length=32) (f:LfT [.int .i64,.arr 32]→Option R):zaz [.int .i64,.arr 32] (.int .i64 a::uL b) f=f (a,uL b,()):=by
 have e1:(uL b).take 32=uL b:=List.take_of_length_le (by simp [h])
 have e2:(uL b).drop 32=[]:=List.drop_of_length_le (by simp [h])
 simp [zaz,zdV,Lf.get,h,e1,e2]
theorem zqj {R:Type} {b:List Int} (h:b.length=32) (f:LfT [.arr 32]→Option R):zaz [.arr 32] (uL b) f=f (uL b,()):=by
 have e1:(uL b).take 32=uL b:=List.take_of_length_le (by simp [h])
 have e2:(uL b).drop 32=[]:=List.drop_of_length_le (by simp [h])
 simp [zaz,zdV,Lf.get,h,e1,e2]
theorem zIf {T:Tb} {i:Nat} {s:DS} (h:T[i]? =some s.cells) (hs:s.Ok) (a:Int):za5 [.h kD i 0,.int .i64 a] [T]=some (Ans.mk (.int .i64 (s.may a)) [] []):=by
 rw [zoR];unfold zhE DS.may;rw [zal h,zal (zoB hs.len),zch];cases hf:s.failed
 ·by_cases h0:a < 0
  ·simp [zbZ,h0]
  ·by_cases h1:52≤a
   ·simp [zbZ,h0,h1]
   ·simp [zbZ,h0,h1]
 ·simp [zbZ]
theorem zEP {T:Tb} {i:Nat} {s:DS} (h:T[i]? =some s.cells) (hs:s.Ok):zbF [.h kD i 0] [T]=some (Ans.mk (.bool s.failed) [] []):=by
 rw [zlD];unfold zfA;rw [zal h,zal (zoB hs.len),zch]
theorem ztd {b:List Int} (h:b.length≤4294967296) (tg:Tag):zar [.sl tg (uL b)]=some (.sl .own (uL b)):=by
 cases b with
 | nil=>exact zg8 tg
 | cons n b=>
  show zar [.sl tg (.int .u8 n::uL b)]=some (.sl .own (.int .u8 n::uL b));rw [zhL,zdi];unfold zdH
  have h1:(D.lent (.int .u8 n)::uL b)=uL (n::b):=by simp [uL]
  rw [h1];simp only [zdz,zEt,zhv,zaa,h];simp [uL]
theorem zFJ (w:Int×List Int):(wD w).free=true:=by
 simp only [wD,D.free,D.freeL,zrn,Bool.and_self]
theorem zFK (w:Int×List Int):(wD w).lent=wD w:=by
 simp only [wD,D.lent,D.lentL,zdi]
theorem zC3 (p:List (Int×List Int)):D.lentL (p.map wD)=p.map wD:=by
 induction p with
 | nil=>rfl
 | cons w p ih=>simp [ih,zFK]
theorem zGQ {p:List (Int×List Int)} (h:∀ w∈p,Sec w.2):zeC 33 (p.map wD)=true:=by
 simp only [zeC,List.all_map,List.all_eq_true];intro w hw;have:=(h w hw).len;simp [wD,D.width,D.isAgg,D.cell,this]
theorem zC4 {p:List (Int×List Int)} (hp:∀ w∈p,Sec w.2) (h:p.length≤4294967296) (tg:Tag):zaf [.sl tg (p.map wD)]=some (.sl .own (p.map wD)):=by
 cases p with
 | nil=>exact zd6 tg
 | cons w p=>
  have hok:=zGQ hp;rw [List.map_cons] at hok ⊢;rw [zeg,zC3,zFK];unfold zcs
  have hf:(wD w::p.map wD).all D.free=true:=by
   rw [←List.map_cons (f:=wD),List.all_map,List.all_eq_true]; intro w _; exact zFJ w
  have hl:(wD w::p.map wD).length≤4294967296:=by simpa using h
  simp only [zaa,hl,hok,hf]
theorem zC5 {p:List (Int×List Int)} {k:Nat} {w:Int×List Int} (h:p[k]? =some w):(p.map wD)[k]? =some (.agg (.int .i64 w.1::uL w.2)):=by simp [h,wD]
theorem zte (l:List D):D.width (.agg l)=l.length:=rfl
theorem zIg {T:Tb} {i:Nat} {s:DS} (h:T[i]? =some s.cells) (hs:s.Ok) (hn:s.pend.length≤1000000) (a:Int):
  zbX [.h kD i 0,.int .i64 a] [T]=some (Ans.mk (.tup [.sl .own (uL (s.read a).1),.int .i64 (s.read a).2]) [] []):=by
 rw [znP];unfold zgF DS.read;rw [zIf h hs a,zad,zci,zci,za3]
 by_cases hm:s.may a=0
 ·rw [hm];have hb:((0:Int) != 0)=false:=rfl
  rw [hb,zaq,if_neg (by simp)]
  have ha:0≤a∧a < 52:=by
   unfold DS.may at hm;split at hm
   ·omega
   ·split at hm<;>omega
  have hp:=zns (s:=s) hs.len
  have hbase:=zyR (s:=s) hs.len (a:=a.toNat) (by omega)
  have hsec:=zEu hs (a:=a.toNat) (by omega)
  rw [zaa ha.1,zaa (by omega),zal h,zaa (by rw [zke hs.len]; omega),Nat.zero_add,hbase]
  rw [zaa (zvK _),zaa (by simp [hsec.len]),zaa (by simp [hsec.len]),zal h,zal hp,zbA,zal h,zal hp,zbA,zaa (by simp)]
  rw [zqj hsec.len,List.length_map]
  refine zca (R:=Ans) (α:=(Int×(List D×PUnit)×(Nat×Nat×Nat)×Int×Int×PUnit)×List (List D)×PUnit)
   (fun k=>((a,(uL (look (s.pend.take k) a (s.base a.toNat)),PUnit.unit),(i,0,s.pend.length),(s.pend.length:Int),(k:Int),PUnit.unit),T,PUnit.unit)) s.pend.length (by omega) ?_ ?_
  ·intro again k hk;dsimp only;obtain ⟨w,hw⟩:∃ w,s.pend[k]? =some w:=⟨_,List.getElem?_eq_getElem hk⟩;have hws:=hs.ps w (List.mem_of_getElem? hw)
   have hd:decide ((k:Int) < (s.pend.length:Int))=true:=by simp; omega
   have hlk:(look (s.pend.take k) a (s.base a.toNat)).length=32:=zz5 (fun w hw=>(hs.ps w (List.mem_of_mem_take hw)).len) hsec.len
   rw [hd,zaX,zal h,zal hp,zbA,zaa (by omega),zaa (by simpa using hk),zal h,zal hp,zbA,zal (by simpa using zC5 hw),zla,zd0 _ hws.len]
   dsimp only;simp only [List.append_nil,List.cons_append,List.nil_append,zte,List.length_cons,zdz,hws.len,hlk,zaa]
   by_cases hwa:w.1=a
   ·have hb:(w.1 == a)=true:=by simp [hwa]
    rw [hb,zaX,List.drop_succ_cons,List.drop_zero]
    have et:(uL w.2).take 32=uL w.2:=List.take_of_length_le (by simp [hws.len])
    rw [et,zaa (by omega),zaa (by simp [hws.len]),zaa (by simp [hws.len]),zaa (by omega),zaF,zah (by omega) (by omega),zFs (by simp [hws.len])]
    have e3:(uL (look (s.pend.take k) a (s.base a.toNat))).take 0++uL w.2++(uL (look (s.pend.take k) a (s.base a.toNat))).drop (0+32)=uL w.2:=by
     rw [List.drop_of_length_le (by simp [hlk])]; simp
    rw [e3,zqj hws.len,zxt hw,if_pos hwa];rfl
   ·have hb:(w.1 == a)=false:=by simp [hwa]
    rw [hb,zaq,zaF,zah (by omega) (by omega),zqj hlk,zxt hw,if_neg hwa]
    rfl
  ·intro again
   have hlk:=zz5 (p:=s.pend) (a:=a) (fun w hw=>(hs.ps w hw).len) hsec.len
   have hd:decide ((s.pend.length:Int) < (s.pend.length:Int))=false:=by simp
   dsimp only;rw [hd,zaq,List.take_length];simp only [List.append_nil,zdz,hlk,Nat.le_refl,zaa]
   have ec:cut 0 32 (uL (look s.pend a (s.base a.toNat)))=uL (look s.pend a (s.base a.toNat)):=by
    have:=zdD (uL (look s.pend a (s.base a.toNat)));rw [zdz,hlk] at this; exact this
   rw [ec,ztd (by rw [hlk]; omega),zad,zbA]
   simp;rfl
 ·have hb:(s.may a != 0)=true:=by simp [hm]
  rw [hb,zaX,if_pos hm];rfl
theorem zGR {T:Tb} {i:Nat} {s:DS} (h:T[i]? =some s.cells) (hs:s.Ok) (a:Int) (tg:Tag) (b:List Int):
  za6 [.h kD i 0,.int .i64 a,.sl tg (uL b)] [T]=some (Ans.mk (.tup [wD (putR s a b).1,.int .i64 (putR s a b).2]) [] []):=by
 rw [zoS,zdi];unfold zhF putR;rw [zIf h hs a,zad,zci,zci,za3]
 by_cases hm:s.may a=0
 ·rw [hm];have hb:((0:Int) != 0)=false:=rfl
  rw [hb,zaq,if_neg (by simp)]
  by_cases hl:b.length=32
  ·have hb2:(((uL b).length:Int) != 32)=false:=by simp [hl]
   rw [hb2,zaq,if_neg (by simp [hl]),zaa (zz4 _),zaa (by simp [hl])]
   have et:(D.int .i64 a::uL b).take 33=.int .i64 a::uL b:=List.take_of_length_le (by simp [hl])
   simp only [List.append_nil,List.cons_append,List.nil_append,List.length_cons,zdz,hl,List.drop_zero,et]
   rw [zaa (by omega),zd0 _ hl]
   dsimp only;simp only [zdz,hl,Nat.le_refl,zaa,List.take_of_length_le,et];rw [zd0 _ hl];dsimp only
   rw [zaa (by simp only [D.free,D.freeL,zrn,Bool.and_self])]
   rfl
  ·have hb2:(((uL b).length:Int) != 32)=true:=by simp; omega
   rw [hb2,zaX,if_pos hl];rfl
 ·have hb:(s.may a != 0)=true:=by simp [hm]
  rw [hb,zaX,if_pos hm];rfl
theorem zGS (w:Int×List Int) (hw:Sec w.2) (c:Int):zaJ [wD w,.at_ (.int .i64 c)]=some (.bool (w.1 == c)):=by
 unfold wD;rw [zjQ];unfold zeJ
 rw [show D.lentL (.int .i64 w.1::uL w.2)=.int .i64 w.1::uL w.2 by simp [zdi],zd0 _ hw.len]
theorem zzb {p:List (Int×List Int)} (hp:∀ w∈p,Sec w.2) {c:Int} (hc:∀ w∈p,w.1≠c) (hn:p.length≤1000000) (tg:Tag):
  zat [.sl tg (p.map wD),.fn ID.disk_Disk_Damage_1 [] [.at_ (.int .i64 c)]]=some (.int .i64 (-1)):=by
 rw [zdb,zC3];unfold zbT;rw [List.length_map]
 refine zca (R:=D) (α:=(List D×Int×Int×Int×PUnit)×PUnit) (fun k=>((p.map wD,c,(p.length:Int),(k:Int),PUnit.unit),PUnit.unit)) p.length (by omega) ?_ ?_
 ·intro again k hk;dsimp only;obtain ⟨w,hw⟩:∃ w,p[k]? =some w:=⟨_,List.getElem?_eq_getElem hk⟩;have hws:=hp w (List.mem_of_getElem? hw)
  have hd:decide ((k:Int) < (p.length:Int))=true:=by simp; omega
  rw [hd,zaX,zaa (by omega),zal (by simpa using zC5 hw),zla,zd0 _ hws.len]
  dsimp only;simp only [List.append_nil,List.cons_append,List.nil_append,zte,List.length_cons,zdz,hws.len,zaa];rw [zd0 _ hws.len];dsimp only
  rw [zdz,hws.len,zaa (by omega)]
  have:=zGS w hws c;unfold wD at this;rw [this,zad,zch]
  have hb:(w.1 == c)=false:=by simp [hc w (List.mem_of_getElem? hw)]
  rw [hb,zaq,zaF,zah (by omega) (by omega)]
  rfl
 ·intro again
  have hd:decide ((p.length:Int) < (p.length:Int))=false:=by simp
  dsimp only;rw [hd,zaq]
theorem zxU {p:List (Int×List Int)} (hp:∀ w∈p,Sec w.2) {c:Int} (hc:∀ w∈p,w.1≠c) (hn:p.length≤1000000):
  zap [.sl .own (p.map wD),.fn ID.disk_Disk_Damage_1 [] [.at_ (.int .i64 c)]] []=some (Ans.mk (.sl .own (p.map wD)) [] []):=by
 rw [zc8];unfold zbM
 rw [zaa (by omega),zdD,zzb hp hc hn,zad,za3]
 have hb:((-1:Int) == -1)=true:=rfl
 have hf:(p.map wD).all D.free=true:=by rw [List.all_map,List.all_eq_true]; intro w _; exact zFJ w
 rw [hb,zaX,zaa (by rfl),zaa hf]
theorem zpl (p:List (Int×List Int)):zdC (p.map wD)=true:=by
 simp only [zdC,List.all_map,List.all_eq_true];intro w _;simp [wD,D.flatEl,D.flat,uL]
theorem zwj {p:List (Int×List Int)} (h:∀ w∈p,Sec w.2):zgm 33 (p.map wD)=true:=by
 simp only [zgm,List.all_map,List.all_eq_true];intro w hw;have:=(h w hw).len;simp [wD,D.width,this]
theorem zEQ {T:Tb} {i:Nat} {s:DS} (h:T[i]? =some s.cells) (hs:s.Ok) (hn:s.pend.length≤1000000) {a:Int} (hc:∀ w∈s.pend,w.1≠a) (tg:Tag) (b:List Int):
  zbE [.h kD i 0,.int .i64 a,.sl tg (uL b)] [T]=some (Ans.mk (.int .i64 (s.damage a b).1) [] [T.set i (s.damage a b).2.cells]):=by
 rw [zlr,zdi];unfold zfx DS.damage;have hpl:=zz6 s a b;rw [zGR h hs,zad,zci,zci,zdX,zc4,zc4,zee];dsimp only;unfold wD;rw [zla,zd0 _ hpl,za3];dsimp only
 rw [zaa (by simp [hpl])]
 by_cases he:(putR s a b).2=0
 ·obtain ⟨h1,h2,h3,h4,h5⟩:=zvL he
  have hb:((putR s a b).2 != 0)=false:=by simp [he]
  rw [hb,zaq,if_pos he,h3]
  try rw [he]
  dsimp only
  have et:(uL b).take 32=uL b:=List.take_of_length_le (by simp [h2])
  simp only [List.append_nil,List.cons_append,List.nil_append,List.length_cons,zdz,h2,List.drop_succ_cons,List.drop_zero,et,zvK,Nat.zero_add];have hlen:=hs.len
  have hset:za8 T i (a.toNat*32) (uL b)=T.set i (s.setSec a.toNat b).cells:=by
   rw [zef h,zdz,h2,zFF hlen (by omega)]
  have hlen2:=zuA (s:=s) hlen (a:=a.toNat) (by omega) h2
  have hU:=zmh h (s.setSec a.toNat b).cells;have hp:=zns hlen2;have hpe:(s.setSec a.toNat b).pend=s.pend:=rfl
  rw [zaa (by first | trivial | omega),zaa (by first | trivial | omega),zaa h4,zaa (by first | trivial | omega),zal h,zaa (by rw [zke hlen]; omega),zaa (by first | trivial | omega),zaa (by first | trivial | rfl)]
  rw [zyR hlen (by first | trivial | omega),zaa (zvK _),zsp,hset,zal hU,zal hp,zbA,zal hU,zal hp,zbA,zaa (by first | trivial | omega),zdD,hpe]
  rw [zC4 hs.ps (by first | trivial | omega),zad,zbA,zaa (by first | trivial | rfl),zaa (zpl _),zxU hs.ps hc hn,zad,zci,zci,zbA,zaa (by first | trivial | omega),zal hU,zaa (by rw [zke hlen2]; omega),
   zaa (by first | trivial | rfl),zaa (zpl _),zaa (zwj hs.ps),zsp]
  have h6:za8 (T.set i (s.setSec a.toNat b).cells) i 1664 [.sl .own (s.pend.map wD)]=T.set i (s.setSec a.toNat b).cells:=by
   rw [zef hU];have:=zpG (s:=s.setSec a.toNat b) hlen2 s.pend
   rw [show (1664:Nat)+[D.sl .own (s.pend.map wD)].length=1665 from rfl,this,List.set_set]
   rfl
  rw [h6,show s.mayW a b=0 from he]
 ·have hb:((putR s a b).2 != 0)=true:=by simp [he]
  rw [hb,zaX,if_neg he]
  have:T.set i s.cells=T:=by
   apply List.ext_getElem?;intro j;rw [List.getElem?_set];split
   ·rename_i e; subst e; rw [h]; simp [za4 h]
   ·rfl
  rw [this]
theorem zER (T:Tb):zpM T=some (Ans.mk (.h kD T.length 0) [] [T++[List.replicate 1664 (D.int .u8 0)++[.sl .own [],.bool false]]]):=by kernel_rfl
theorem zI5 (T:Tb):zdk [] [T]=some (Ans.mk (.h kD T.length 0) [] [T++[DS.new.cells]]):=by
 rw [zvS]
 have e:DS.new.cells=List.replicate 1664 (D.int .u8 0)++[.sl .own [],.bool false]:=by
  show uL (List.replicate 1664 0)++[.sl .own [],.bool false]=_;rw [←zsw]
 rw [e];exact zER T
theorem zzc {R:Type} {n:Nat} {b:List Int} (h:b.length=n) (f:LfT [.arr n]→Option R):zaz [.arr n] (uL b) f=f (uL b,()):=by
 subst h
 have e1:(uL b).take b.length=uL b:=List.take_of_length_le (by simp)
 have e2:(uL b).drop b.length=[]:=List.drop_of_length_le (by simp)
 simp [zaz,zdV,Lf.get,e1,e2]
theorem zuQ {n:Nat} {b:List Int} (h:b.length=n):(uL b).take n=uL b:=List.take_of_length_le (by simp [h])
theorem zES {a:Int} {b:List Int} (h:b.length=32):zeC 33 [D.agg (D.int .i64 a::uL b)]=true:=by simp [zeC,D.width,D.isAgg,D.cell,h]
theorem zC6 {a:Int} {b:List Int} (h:b.length=32):zgm 33 [D.agg (D.int .i64 a::uL b)]=true:=by simp [zgm,D.width,h]
theorem zBe (a:Int) (b:List Int):zdC [D.agg (D.int .i64 a::uL b)]=true:=by
 have h:(uL b).all D.flat=true:=zGI b;show ((D.agg (D.int .i64 a::uL b)).flatEl && true)=true;show ((true && (uL b).all D.flat) && true)=true;rw [h]; rfl
section
variable {T:Tb} {i:Nat} {s:DS}
theorem zET (h:T[i]? =some s.cells) (hl:s.l.length=1664) (p:List (Int×List Int)) (l:List D) (e:l=p.map wD):za8 (setT T i 1664 .undef) i 1664 [.sl .own l]=T.set i ({ s with pend:=p }:DS).cells:=by
 subst e
 rw [zvD h (by rw [zke hl]; omega),zpG hl]
theorem zxV (h:T[i]? =some s.cells) (hl:s.l.length=1664) (p:List (Int×List Int)):za8 T i 1664 [.sl .own (p.map wD)]=T.set i ({ s with pend:=p }:DS).cells:=by
 rw [zef h];exact congrArg _ (zpG hl p)
theorem zwk (h:T[i]? =some s.cells) (hs:s.Ok) (hn:s.pend.length≤1000000) (a:Int) (tg:Tag) (b:List Int):
  zbD [.h kD i 0,.int .i64 a,.sl tg (uL b)] [T]=some (Ans.mk (.int .i64 (s.write a b).1) [] [T.set i (s.write a b).2.cells]):=by
 rw [zmS,zdi];unfold zgb DS.write;have hpl:=zz6 s a b
 by_cases he:(putR s a b).2=0
 ·obtain ⟨h1,h2,h3,h4,h5⟩:=zvL he
  simp (disch:=first | omega | assumption | (simp; done) | fail) [zGR h hs,wD,zd0 _ hpl,he,h3,zal h,zal (zns hs.len),hpl,h2,zzc h2,zuQ h2,zES h2,zC6 h2,zCu h,zke hs.len,zpl,zBe,zwj hs.ps]
  exact zET h hs.len (s.pend++[(a,b)]) _ (by simp [wD])
 ·simp (disch:=first | omega | assumption | (simp; done) | fail) [zGR h hs,wD,zd0 _ hpl,he,hpl,set_same h]
theorem zqk {β:Type} {l:List β} {n:Nat} (h:l.length=n):cut 0 n l=l:=by subst h; exact zdD l
theorem zIh (l:List Int):(uL l).map D.hide=uL l:=by
 unfold uL; rw [List.map_map]; apply List.map_congr_left; intro n _; rfl
theorem zFL (l:List Int):(uL l).map D.own0=uL l:=by
 unfold uL; rw [List.map_map]; apply List.map_congr_left; intro n _; rfl
theorem zzd (h:T[i]? =some s.cells) (hs:s.Ok) (hn:s.pend.length≤1000000):zbR [.h kD i 0] [T]=some (Ans.mk (.h kD T.length 0) [] [T++[s.cells]]):=by
 rw [zmQ];unfold zga
 have e1:List.map D.hide (List.take 1666 (List.drop 0 s.cells))=uL s.l++[D.undef,D.bool s.failed]:=by
  rw [List.drop_zero,List.take_of_length_le (by rw [zke hs.len]; omega)]
  unfold DS.cells;rw [List.map_append,zIh]; rfl
 have e2:∀ (x:List D),x.length=1666→spl 0 1666 x (uL s.l++[D.undef,D.bool s.failed])=uL s.l++[D.undef,D.bool s.failed]:=by
  intro x hx; unfold spl; rw [if_pos ⟨rfl,hx.symm⟩]
 have e3:((uL s.l++[D.undef,D.bool s.failed]).set 1664 .nilp).all D.own0ok=true:=by
  rw [List.set_append_right _ _ (by simp [hs.len]),List.all_append,zqF (fun _=>rfl)]
  simp [hs.len,D.own0ok,D.flat]
 have e4:((uL s.l++[D.undef,D.bool s.failed]).map D.own0).set 1664 (.sl .own (s.pend.map wD))=s.cells:=by
  rw [List.map_append,zFL,List.set_append_right _ _ (by simp [hs.len])]
  simp [hs.len,DS.cells,D.own0]
 have e5:(uL s.l++[D.undef,D.bool s.failed]).length=1666:=by simp [hs.len]
 have e6:(List.reverse ([D.bool false,D.sl Tag.nil []]++List.replicate 1664 (D.int IntKind.u8 (0:Int)))).length=1666:=by rw [List.length_reverse,List.length_append,List.length_replicate]; rfl
 have e7:((true && decide ((1:Nat)=(1:Nat)) && List.all [(1664:Nat)] fun k=>decide (k < 1666))=true):=by decide
 rw [zal h,e1,e2 _ e6];generalize (uL s.l++[D.undef,D.bool s.failed])=X at*
 simp (disch:=first | omega | assumption | (simp; done) | fail) [e3,e4,e5,e7,zqk,zal h,zal (zns hs.len),zke hs.len,zC4 hs.ps,zpl,zwj hs.ps]
theorem zGT (h:T[i]? =some s.cells) (hs:s.Ok) (hn:s.pend.length≤1000000):zbS [.h kD i 0] [T]=some (Ans.mk (.int .i64 s.flush.1) [] [T.set i s.flush.2.cells]):=by
 rw [zmU];unfold zgc DS.flush;cases hf:s.failed
 ·have hlp:(s.pend.map wD).length=s.pend.length:=by simp
  simp (disch:=first | omega | assumption | (simp; done) | fail) only [zal h,zal (zoB hs.len),zal (zns hs.len),hf,zch,zaq,zbA,zaa,Nat.zero_add,Nat.le_refl,hlp]
  let st:Nat→(Nat×(Nat×Nat×Nat)×Int×Int×PUnit)×List (List D)×PUnit:=fun k=>((i,(i,0,s.pend.length),(s.pend.length:Int),(k:Int),PUnit.unit),T.set i (s.puts (s.pend.take k)).cells,PUnit.unit)
  have hst:st 0=((i,(i,0,s.pend.length),(s.pend.length:Int),0,PUnit.unit),T,PUnit.unit):=by
   show ((i,(i,0,s.pend.length),(s.pend.length:Int),0,PUnit.unit),T.set i (s.puts []).cells,PUnit.unit)=_
   rw [show s.puts []=s from rfl,set_same h]
  rw [←hst]
  refine zca st s.pend.length (by omega) ?_ ?_
  ·intro again k hk;dsimp only [st];obtain ⟨w,hw⟩:∃ w,s.pend[k]? =some w:=⟨_,List.getElem?_eq_getElem hk⟩;obtain ⟨hws,hw0,hw1⟩:=hs.pend w (List.mem_of_getElem? hw)
   obtain ⟨pk,pf,pp⟩:=zsz hs (s.pend.take k) fun w hw=>hs.pend w (List.mem_of_mem_take hw)
   have hU:=zmh h (s.puts (s.pend.take k)).cells;have hpd:=zns (s:=s.puts (s.pend.take k)) pk.len;rw [pp] at hpd
   have hnx:za8 (T.set i (s.puts (s.pend.take k)).cells) i (w.1.toNat*32) (uL w.2)=T.set i (s.puts (s.pend.take (k+1))).cells:=by
    rw [zef hU,zdz,hws.len,zFF pk.len (by omega),List.set_set,List.take_add_one,hw]
    show _=T.set i (s.puts (s.pend.take k++[w])).cells;unfold DS.puts;rw [List.foldl_append]; rfl
   simp (disch:=first | omega | assumption | (simp; done) | fail) [zal hU,zal hpd,zal (zC5 hw),zd0 _ hws.len,hws.len,zuQ hws.len,zke pk.len,hk,zte,zyR pk.len,hw0,hw1,zah,hnx]
  ·intro again;dsimp only [st];rw [List.take_length];obtain ⟨pk,pf,pp⟩:=zsz hs s.pend hs.pend;have hU:=zmh h (s.puts s.pend).cells;have hz:=zxV hU pk.len []
   have hz':za8 (T.set i (s.puts s.pend).cells) i 1664 [D.sl Tag.own []]=T.set i s.flushed.cells:=by
    have:=zxV hU pk.len [];rw [List.set_set] at this; exact this
   simp (disch:=first | omega | assumption | (simp; done) | fail) [zal hU,zke pk.len,hz']
 ·simp (disch:=first | omega | assumption | (simp; done) | fail) [zal h,zal (zoB hs.len),hf,set_same h]
theorem zC7 (h:T[i]? =some s.cells) (hs:s.Ok):zbw [.h kD i 0] [T]=some (Ans.mk (.int .i64 s.pend.length) [] []):=by
 rw [zkM];unfold ze9;simp [zal h,zal (zns hs.len)]
theorem zIi (h:T[i]? =some s.cells) (hs:s.Ok):zbY [.h kD i 0] [T]=some (Ans.mk (.tup []) [] [T.set i DS.dead.cells]):=by
 rw [zn4];unfold zgG
 have e:List.map D.own0 (List.set (List.reverse ([D.bool false,D.sl Tag.nil []]++List.replicate 1664 (D.int IntKind.u8 (0:Int)))) 1665 (D.bool true))=DS.dead.cells:=by
  rw [List.reverse_append,List.reverse_replicate];show List.map D.own0 (List.set (List.replicate 1664 (D.int IntKind.u8 (0:Int))++[D.sl Tag.nil [],D.bool false]) 1665 (D.bool true))=uL (List.replicate 1664 0)++[.sl .own [],.bool true]
  rw [List.set_append_right _ _ (by rw [List.length_replicate]; omega),List.length_replicate,List.map_append,zsw,zFL]
  rfl
 have hl:DS.dead.cells.length=1666:=zke (s:=DS.dead) (List.length_replicate ..)
 have hset:za8 T i 0 DS.dead.cells=T.set i DS.dead.cells:=by
  rw [zef h,hl]
  rw [List.take_zero,List.nil_append,List.drop_of_length_le (by rw [zke hs.len]; omega),List.append_nil]
 rw [e,hset,zal h,zke hs.len];simp
end
end Wf

namespace Wf
open Go Go.RowKit Go.Proofs
set_option linter.unusedSimpArgs false
set_option linter.unusedVariables false
section
variable {T0 T1:Tb} {b:Nat} {idx:List Nat} {B:Ben}
theorem At.ds (h:At T0 T1 b idx B) (hw:B.w≤1000000) (d:Int):(B.dk d).Ok∧(B.dk d).pend.length≤1000000:=by
 have:=zmv h.ok d
 exact ⟨this.1,by have:=this.2; omega⟩
theorem zC8 (h:At T0 T1 b idx B):zaU [.h kB b 0] [P0 T0 b idx B]=some (Ans.mk (.int .i64 B.n) [] []):=by
 rw [zmL];unfold zf7;simp [zal h.get0,bRow,h.len,Ben.n]
theorem b_is (h:At T0 T1 b idx B) (d:Int):zas [.h kB b 0,.int .i64 d] [P0 T0 b idx B]=some (Ans.mk (.bool (B.is d)) [] []):=by
 rw [znG];unfold zgD Ben.is Ben.n
 by_cases h0:0≤d
 ·simp [zal h.get0,bRow,h0,h.len]
 ·simp [h0]
theorem zEU (h:At T0 T1 b idx B) (d:Int):zbl [.h kB b 0,.int .i64 d] [P0 T0 b idx B,P1 T1 idx B]=some (Ans.mk (.bool (B.failed d)) [] []):=by
 rw [zjZ];unfold zeM Ben.failed;cases hd:B.is d
 ·simp [b_is h d,hd]
 ·obtain ⟨h0,h1⟩:=zfN.1 hd
  have h1':d.toNat < idx.length:=by have:=h.len; unfold Ben.n at h1; omega
  simp (disch:=first | omega | assumption | (simp; done) | fail) [b_is h d,hd,zal h.get0,bRow,h0,h1',zal (h.hd hd),D.isAgg,D.width,D.cell,zEP (h.get1 hd) (zmv h.ok d).1]
theorem zxW (h:At T0 T1 b idx B) (d:Int):zaB [.h kB b 0,.int .i64 d] [P0 T0 b idx B]=some (Ans.mk (.int .i64 (B.may d)) [] []):=by
 rw [zmN];unfold zf8 Ben.may;cases hd:B.is d
 ·simp [b_is h d,hd]
 ·cases hw:B.down<;>simp [b_is h d,hd,zal h.get0,bRow,hw]
theorem zxX (h:At T0 T1 b idx B) (hw:B.w≤1000000) (d a:Int):zaw [.h kB b 0,.int .i64 d,.int .i64 a] [P0 T0 b idx B,P1 T1 idx B]=some (Ans.mk (.tup [.sl .own (uL (B.read d a).1),.int .i64 (B.read d a).2]) [] []):=by
 rw [zlF];unfold zfB Ben.read
 by_cases hm:B.may d=0
 ·obtain ⟨hd,hdn⟩:=may0.1 hm;obtain ⟨h0,h1⟩:=zfN.1 hd
  have h1':d.toNat < idx.length:=by have:=h.len; unfold Ben.n at h1; omega
  have hu:=zhv ((B.dk d).read a).1;simp only [List.all_eq_true] at hu
  simp (disch:=first | omega | assumption | (simp; done) | fail) [zxW h d,hm,zal h.get0,bRow,h0,h1',zal (h.hd hd),D.isAgg,D.width,D.cell,zIg (h.get1 hd) (h.ds hw d).1 (h.ds hw d).2]
 ·simp [zxW h d,hm]; rfl
theorem zEV (h:At T0 T1 b idx B) (tg:Tag) (live:List Bool) {d:Int} (h0:0≤d):zaT [.h kB b 0,.sl tg (live.map D.bool),.int .i64 d] [P0 T0 b idx B,P1 T1 idx B]=some (Ans.mk (.bool (B.up live d)) [] []):=by
 have hl:D.lentL (live.map D.bool)=live.map D.bool:=by
  induction live with
  | nil=>rfl
  | cons x l ih=>simp [ih]
 rw [ztF,hl];unfold znN Ben.up
 by_cases h1:d < B.n
 ·by_cases h2:d < live.length
  ·have e:live[d.toNat]? =some (live[d.toNat]'(by omega)):=List.getElem?_eq_getElem (by omega)
   have e':(live.map D.bool)[d.toNat]? =some (.bool (live[d.toNat]'(by omega))):=by simp [e]
   cases hv:live[d.toNat]'(by omega)
   ·rw [hv] at e e';simp [zC8 h,h1,h2,h0,zal e',e,hv]
   ·rw [hv] at e e';simp [zC8 h,h1,h2,h0,zal e',e,zEU h d,hv]
  ·have e:live[d.toNat]? =none:=List.getElem?_eq_none (by omega)
   simp [zC8 h,h1,h2,e]
 ·simp [zC8 h,h1]
theorem zC9 (h:At T0 T1 b idx B) (hw:B.w≤1000000):zbf [.h kB b 0] [P0 T0 b idx B]=some (Ans.mk (.bool (decide (B.left≠0))) [] [P0 T0 b idx (if B.left=0 then B.off else B.less)]):=by
 rw [zjn];unfold zel;have hw0:=h.ok.w0;have hlf:=h.ok.lf;have hg:=h.get0
 have hset:∀ (B':Ben) (T:Tb) (cs:List D) (o:Nat) (x:D),T=P0 T0 b idx B'→cs=bRow B' idx→∀ B'':Ben,cs.take o++[x]++cs.drop (o+1)=bRow B'' idx→za8 T b o [x]=P0 T0 b idx B'':=by
  rintro B' _ _ o x rfl rfl B'' e
  have hg':(P0 T0 b idx B')[b]? =some (bRow B' idx):=by unfold P0; rw [List.getElem?_set,if_pos rfl,if_pos h.b]
  rw [zef hg'];show (P0 T0 b idx B').set b ((bRow B' idx).take o++[x]++(bRow B' idx).drop (o+1))=_;rw [e,zIb]
 by_cases hl:B.left=0
 ·have e1:=hset B _ _ 2 (.bool true) rfl rfl B.off rfl
  simp (disch:=first | omega | assumption | (simp; done) | fail) [zal hg,bRow,hl,e1,zil,D.flat]
 ·by_cases hp:0 < B.left
  ·let B1:Ben:={ B with left:=B.left - 1 };have e1:=hset B _ _ 1 (.int .i64 (B.left - 1)) rfl rfl B1 rfl
   have hg1:(P0 T0 b idx B1)[b]? =some (bRow B1 idx):=by unfold P0; rw [List.getElem?_set,if_pos rfl,if_pos h.b]
   have e2:=hset B1 _ _ 0 (.int .i64 (B.w+1)) rfl rfl B.less (by unfold Ben.less; rw [if_pos hp]; rfl)
   have e3:bRow B1 idx=[.int .i64 B.w,.int .i64 (B.left - 1),.bool B.down,.sl .own (idx.map hD)]:=rfl;rw [e3] at hg1
   simp (disch:=first | omega | assumption | (simp; done) | fail) [zal hg,zal hg1,bRow,hl,hp,e1,e2,zil,D.flat,zah]
  ·have e1:=hset B _ _ 0 (.int .i64 (B.w+1)) rfl rfl B.less (by unfold Ben.less; rw [if_neg hp]; rfl)
   simp (disch:=first | omega | assumption | (simp; done) | fail) [zal hg,bRow,hl,hp,e1,zil,D.flat,zah]
theorem zGU (h:At T0 T1 b idx B) (hw:B.w≤1000000) (d a:Int) (tg:Tag) (x:List Int):
  zbu [.h kB b 0,.int .i64 d,.int .i64 a,.sl tg (uL x)] [P0 T0 b idx B,P1 T1 idx B]=some (Ans.mk (.int .i64 (B.write d a x).1) [] [P0 T0 b idx (B.write d a x).2,P1 T1 idx (B.write d a x).2]):=by
 rw [zkI,zdi];unfold ze7 Ben.write
 by_cases hm:B.may d=0
 ·obtain ⟨hd,hdn⟩:=may0.1 hm;obtain ⟨h0,h1⟩:=zfN.1 hd;obtain ⟨ho,hp⟩:=h.ds hw d
  have h1':d.toNat < idx.length:=by have:=h.len; unfold Ben.n at h1; omega
  have hT:(P1 T1 idx B++[(B.dk d).cells])[(P1 T1 idx B).length]? =some (B.dk d).cells:=by simp
  have hj:(P1 T1 idx B++[(B.dk d).cells]).set (P1 T1 idx B).length ((B.dk d).write a x).2.cells=P1 T1 idx (B.junk ((B.dk d).write a x).2):=by
   rw [List.set_append_right _ _ (Nat.le_refl _),Nat.sub_self,←zGL]; rfl
  have hJ:At T0 T1 b idx (B.junk ((B.dk d).write a x).2):=h.nx (K:=0) ⟨zsA h.ok _,rfl,by simp,by simp⟩
  have hd':(B.junk ((B.dk d).write a x).2).is d=true:=hd;have hg1:=hJ.get1 hd';have hset:=hJ.set1 hd' ((B.dk d).write a x).2;have hw1:=zwk (T:=P1 T1 idx (B.junk ((B.dk d).write a x).2)) (i:=ix idx d) (s:=B.dk d) hg1 ho hp a .lent x
  have hgr:∀ B':Ben,(P0 T0 b idx B')[b]? =some [.int .i64 B'.w,.int .i64 B'.left,.bool B'.down,.sl .own (idx.map hD)]:=by
   intro B'; unfold P0; rw [List.getElem?_set,if_pos rfl,if_pos h.b]; rfl
  by_cases he:(B.dk d).mayW a x=0
  ·have e1:((B.dk d).write a x).1=0:=he
   have e2:((B.dk d).write a x).2=(B.dk d).add a x:=by unfold DS.write; rw [if_pos he]
   by_cases hl:B.left=0
   ·simp (disch:=first | omega | assumption | (simp; done) | fail) [zxW h d,hm,zal (hgr _),h0,h1',zal (h.hd hd),D.isAgg,D.width,D.cell,zzd (h.get1 hd) ho hp,zhs,zwk hT ho hp,hj,he,e1,zC9 h hw,hl]
    exact ⟨rfl,rfl⟩
   ·simp (disch:=first | omega | assumption | (simp; done) | fail) [zxW h d,hm,zal (hgr _),h0,h1',zal (h.hd hd),D.isAgg,D.width,D.cell,zzd (h.get1 hd) ho hp,zhs,zwk hT ho hp,hj,he,e1,zC9 h hw,hl,hw1,hset]
    rw [e2]; exact ⟨rfl,rfl⟩
  ·have e1:¬ ((B.dk d).write a x).1=0:=he
   simp (disch:=first | omega | assumption | (simp; done) | fail) [zxW h d,hm,zal (hgr _),h0,h1',zal (h.hd hd),D.isAgg,D.width,D.cell,zzd (h.get1 hd) ho hp,zhs,zwk hT ho hp,hj,he,e1]
   exact ⟨rfl,rfl⟩
 ·simp [zxW h d,hm]
theorem zGV (h:At T0 T1 b idx B) (hw:B.w≤1000000) (d:Int):
  zbv [.h kB b 0,.int .i64 d] [P0 T0 b idx B,P1 T1 idx B]=some (Ans.mk (.int .i64 (B.flush d).1) [] [P1 T1 idx (B.flush d).2]):=by
 rw [zkK];unfold ze8 Ben.flush
 by_cases hm:B.may d=0
 ·obtain ⟨hd,hdn⟩:=may0.1 hm;obtain ⟨h0,h1⟩:=zfN.1 hd;obtain ⟨ho,hp⟩:=h.ds hw d
  have h1':d.toNat < idx.length:=by have:=h.len; unfold Ben.n at h1; omega
  simp (disch:=first | omega | assumption | (simp; done) | fail) [zxW h d,hm,zal h.get0,bRow,h0,h1',zal (h.hd hd),D.isAgg,D.width,D.cell,zGT (h.get1 hd) ho hp,h.set1 hd]
 ·simp [zxW h d,hm]
theorem zIj (h:At T0 T1 b idx B) (d:Int):
  zbs [.h kB b 0,.int .i64 d] [P0 T0 b idx B,P1 T1 idx B]=some (Ans.mk (.int .i64 (B.fail d).1) [] [P1 T1 idx (B.fail d).2]):=by
 rw [zlZ];unfold zfH Ben.fail;cases hd:B.is d
 ·simp [b_is h d,hd]
 ·obtain ⟨h0,h1⟩:=zfN.1 hd
  have h1':d.toNat < idx.length:=by have:=h.len; unfold Ben.n at h1; omega
  simp (disch:=first | omega | assumption | (simp; done) | fail) [b_is h d,hd,zal h.get0,bRow,h0,h1',zal (h.hd hd),D.isAgg,D.width,D.cell,zIi (h.get1 hd) (zmv h.ok d).1,h.set1 hd]
theorem zEW (h:At T0 T1 b idx B) (hw:B.w≤1000000) (d:Int) {a:Int} (hc:∀ w∈(B.dk d).pend,w.1≠a) (tg:Tag) (x:List Int):
  zbk [.h kB b 0,.int .i64 d,.int .i64 a,.sl tg (uL x)] [P0 T0 b idx B,P1 T1 idx B]=some (Ans.mk (.int .i64 (B.damage d a x).1) [] [P1 T1 idx (B.damage d a x).2]):=by
 rw [zjS,zdi];unfold zeK Ben.damage;cases hd:B.is d
 ·simp [b_is h d,hd]
 ·obtain ⟨h0,h1⟩:=zfN.1 hd;obtain ⟨ho,hp⟩:=h.ds hw d
  have h1':d.toNat < idx.length:=by have:=h.len; unfold Ben.n at h1; omega
  simp (disch:=first | omega | assumption | (simp; done) | fail) [b_is h d,hd,zal h.get0,bRow,h0,h1',zal (h.hd hd),D.isAgg,D.width,D.cell,zEQ (h.get1 hd) ho hp hc,h.set1 hd]
def zwl (B:Ben):Nat→Int
 | 0=>0
 | k+1=>zwl B k+(B.dk k).pend.length
theorem zAk (hB:B.Ok):∀ k,0≤zwl B k∧zwl B k≤k*B.w
 | 0=>⟨Int.le_refl _,by simp [zwl]⟩
 | k+1=>by
  have:=zAk hB k;have h2:=(zmv hB k).2
  have e:((k+1:Nat):Int)*B.w=k*B.w+B.w:=by rw [Int.natCast_add,Int.add_mul]; simp
  unfold zwl; rw [e]; omega
def Ben.pending (B:Ben):Int:=zwl B B.ds.length
theorem zDa (h:At T0 T1 b idx B) (hw:B.w≤1000000):za7 [.h kB b 0] [P0 T0 b idx B,P1 T1 idx B]=some (Ans.mk (.int .i64 B.pending) [] []):=by
 rw [zjr];unfold zen Ben.pending;have hrow:(P0 T0 b idx B)[b]? =some [.int .i64 B.w,.int .i64 B.left,.bool B.down,.sl .own (idx.map hD)]:=h.get0;have hsm:=h.ok.small
 simp (disch:=first | omega | assumption | (simp; done) | fail) only [zal hrow,zhu,zso,zbA,zaa,Nat.zero_add,Nat.le_refl,List.length_map,h.len]
 let st:Nat→(Int×(Nat×Nat×Nat)×Int×Int×PUnit)×List (List D)×List (List D)×PUnit:=fun k=>((zwl B k,(b,0,B.ds.length),(B.ds.length:Int),(k:Int),PUnit.unit),P0 T0 b idx B,P1 T1 idx B,PUnit.unit)
 show zb3 _ (st 0)=_
 refine zca st B.ds.length (by omega) ?_ ?_
 ·intro again k hk;dsimp only [st]
  have hd:B.is k=true:=zfN.2 ⟨by omega,by unfold Ben.n; omega⟩
  have hp:=zAk h.ok k;have h2:=(zmv h.ok k).2
  have hkw:(k:Int)*B.w≤8*1000000:=Int.mul_le_mul (by omega) hw h.ok.w0 (by omega)
  have hhd:(idx.map hD)[k]? =some (.h kD (ix idx k) 0):=by have:=h.hd hd; simpa using this
  have hw0:=h.ok.w0
  simp (disch:=first | omega | assumption | (simp; done) | fail) [zal hrow,hk,zal hhd,D.isAgg,D.width,D.cell,zC7 (h.get1 hd) (zmv h.ok _).1,zah]
  rfl
 ·intro again;dsimp only [st];simp
end
end Wf

namespace Wf
open Go Go.RowKit Go.Proofs
set_option linter.unusedSimpArgs false
set_option linter.unusedVariables false
theorem gf_double (a:Int):zbc [.int .u8 a]=some (.int .u8 (dbl a)):=by
 rw [ztI];unfold znT dbl
 by_cases h:128≤a
 ·simp [h]
 ·simp [h]
theorem zIk (a b:Int) (h0:0≤b) (h1:b < 256):zeV [.int .u8 a,.int .u8 b]=some (.int .u8 (mul8 a b)):=by
 rw [zy2];unfold zv0
 refine zfZ (fun x=>x.1.2.1.toNat) (fun _=>some (D.int .u8 (mul8 a b)))
  (fun x=>∃ (n:Nat) (a' b' o:Int),0≤b'∧b' < 2 ^ n∧n≤8∧mulA n a' b' o=mul8 a b∧x=((a',b',o,PUnit.unit),PUnit.unit)) ?_ ⟨8,a,b,0,h0,h1,Nat.le_refl _,rfl,rfl⟩ (by simp; omega)
 rintro again _ ⟨n,a',b',o,p0,p1,p2,p3,rfl⟩ hag
 dsimp only
 by_cases hb:b' > 0
 ·have hd:decide (b' > 0)=true:=by simp [hb]
  rw [hd,zaX,zaF]
  cases n with
  | zero=>simp at p1; omega
  | succ n=>
   have hdiv:b'.fdiv 2=b' / 2:=Int.fdiv_eq_ediv_of_nonneg _ (by omega)
   have hlt:b' / 2 < 2 ^ n:=by
    have:(2:Int) ^ (n+1)=2 ^ n*2:=Int.pow_succ ..;omega
   by_cases hone:bits .and .u8 b' 1=1
   ·have hbo:(bits .and .u8 b' 1 == 1)=true:=by simp [hone]
    rw [hbo,zaX,zaF,gf_double,zad,za3,zaF,hdiv]
    refine hag _ ⟨n,_,_,_,by omega,hlt,by omega,?_,rfl⟩ (by simp; omega)
    rw [←p3]
    show _=mulA n (dbl a') (b' / 2) (if bits .and .u8 b' 1=1 then xor8 o a' else o)
    rw [if_pos hone]
   ·have hbo:(bits .and .u8 b' 1 == 1)=false:=by simp [hone]
    rw [hbo,zaq,gf_double,zad,za3,zaF,hdiv]
    refine hag _ ⟨n,_,_,_,by omega,hlt,by omega,?_,rfl⟩ (by simp; omega)
    rw [←p3]
    show _=mulA n (dbl a') (b' / 2) (if bits .and .u8 b' 1=1 then xor8 o a' else o)
    rw [if_neg hone]
 ·have hd:decide (b' > 0)=false:=by simp [hb]
  have:b'=0:=by omega
  subst this;rw [hd,zaq,←p3,zCw]
theorem zEX {a b:List Int} {k:Nat} {x y:Int} (h1:a[k]? =some x) (h2:b[k]? =some y):(List.zipWith xor8 a b).take (k+1)=(List.zipWith xor8 a b).take k++[xor8 x y]:=by
 rw [List.take_add_one];congr 1;simp [List.getElem?_zipWith,h1,h2]
theorem zii (t t':Tag) (a b:List Int) (ha:a.length < 100000):zaO [.sl t (uL a),.sl t' (uL b)]=some (.sl .own (uL (addL a b))):=by
 rw [zv1,zdi,zdi];unfold zp1 addL
 by_cases hl:a.length=b.length
 ·have hb:(((uL a).length:Int) != ((uL b).length:Int))=false:=by simp [hl]
  rw [hb,zaq,if_pos hl]
  let st:Nat→(List D×List D×List D×Int×Int×PUnit)×PUnit:=fun k=>((uL b,uL ((List.zipWith xor8 a b).take k),uL a,(a.length:Int),(k:Int),PUnit.unit),PUnit.unit)
  have hst:st 0=((uL b,[],uL a,((uL a).length:Int),0,PUnit.unit),PUnit.unit):=by simp [st,uL]
  rw [←hst];refine zcr st a.length ha ?_ ?_
  ·intro again k hk;dsimp only [st];have h1:a[k]? =some a[k]:=List.getElem?_eq_getElem hk
   have h2:b[k]? =some (b[k]'(by omega)):=List.getElem?_eq_getElem (by omega)
   have hd:decide ((k:Int) < (a.length:Int))=true:=by simp; omega
   rw [hd,zaX,zaa (by omega),zal (by simpa using zkd h1),za3,zaa (by omega),zal (by simpa using zkd h2),za3,zaF,zaa (by simp; omega),zaa (by rfl),zaF,zah (by omega) (by omega),zaa (by simp)]
   rw [zEX h1 h2,←zCG];rfl
  ·intro again;dsimp only [st]
   have hd:decide ((a.length:Int) < (a.length:Int))=false:=by simp
   have ht:(List.zipWith xor8 a b).take a.length=List.zipWith xor8 a b:=List.take_of_length_le (by simp; omega)
   rw [hd,zaq,zaa (by rfl),zaa (zhv _),ht]
 ·have hb:(((uL a).length:Int) != ((uL b).length:Int))=true:=by simp; omega
  rw [hb,zaX,if_neg hl];rfl
theorem zjt (t:Tag) (a:List Int) (ha:a.length < 100000) {f:Int} (h0:0≤f) (h1:f < 256):zaL [.sl t (uL a),.int .u8 f]=some (.sl .own (uL (a.map (mul8 · f)))):=by
 rw [zsZ,zdi];unfold zlI
 let st:Nat→(Int×List D×List D×Int×Int×PUnit)×PUnit:=fun k=>((f,uL ((a.map (mul8 · f)).take k),uL a,(a.length:Int),(k:Int),PUnit.unit),PUnit.unit)
 have hst:st 0=((f,[],uL a,((uL a).length:Int),0,PUnit.unit),PUnit.unit):=by simp [st,uL]
 rw [←hst];refine zcr st a.length ha ?_ ?_
 ·intro again k hk;dsimp only [st];have h2:a[k]? =some a[k]:=List.getElem?_eq_getElem hk
  have hd:decide ((k:Int) < (a.length:Int))=true:=by simp; omega
  rw [hd,zaX,zaa (by omega),zal (by simpa using zkd h2),za3,zIk _ _ h0 h1,zad,za3,zaa (by simp; omega),zaa (by rfl),zaF,zah (by omega) (by omega),zaa (by simp)]
  have:(a.map (mul8 · f)).take (k+1)=(a.map (mul8 · f)).take k++[mul8 a[k] f]:=by rw [List.take_add_one]; simp [h2]
  rw [this,←zCG];rfl
 ·intro again;dsimp only [st]
  have hd:decide ((a.length:Int) < (a.length:Int))=false:=by simp
  have ht:(a.map (mul8 · f)).take a.length=a.map (mul8 · f):=List.take_of_length_le (by simp)
  rw [hd,zaq,zaa (by rfl),zaa (zhv _),ht]
abbrev Part:=Tag×List Int
def pL (ps:List Part):List D:=ps.map fun x=>.sl x.1 (uL x.2)
def zb0 (t:Tag) (l:List Int):Tag:=match t,l with
 | .nil,_=>.nil
 | .nn,[]=>.nn
 | .nul,[]=>.nul
 | _,_=>.lent
theorem zGW (t:Tag) (l:List Int):D.lent (.sl t (uL l))=.sl (zb0 t l) (uL l):=by
 have h:=zdi l
 cases l with
 | nil=>cases t<;>rfl
 | cons n l=>
  have e:uL (n::l)=.int .u8 n::uL l:=rfl;rw [e] at h ⊢;cases t<;>simp only [D.lent,h,zb0]<;>simp [D.lentL,D.lent,zdi]
theorem zdc (ps:List Part):D.lentL (pL ps)=pL (ps.map fun x=>(zb0 x.1 x.2,x.2)):=by
 unfold pL;rw [zr2,List.map_map,List.map_map];apply List.map_congr_left;intro x _;exact zGW x.1 x.2
@[simp] theorem ztf (ps:List Part):(pL ps).length=ps.length:=by simp [pL]
theorem zcR {ps:List Part} {k:Nat} {x:Part} (h:ps[k]? =some x):(pL ps)[k]? =some (.sl x.1 (uL x.2)):=by simp [pL,h]
theorem zDb (ps:List Part) (t:Tag) (l:List Int):pL ps++[.sl t (uL l)]=pL (ps++[(t,l)]):=by simp [pL]
theorem zqP (ps:List Part) (i:Nat) (t:Tag) (l:List Int):(pL ps).set i (.sl t (uL l))=pL (ps.set i (t,l)):=by simp [pL,List.map_set]
def Part.free (x:Part):Bool:=x.1=.fresh || x.1=.full || x.1=.nil
theorem zl2 {ps:List Part} (h:∀ x∈ps,x.free=true):(pL ps).all D.free=true:=by
 unfold pL;rw [List.all_map,List.all_eq_true];intro x hx;have:=h x hx;obtain ⟨t,l⟩:=x
 cases t<;>first | (exact zrn l) | (exact absurd this (by simp [Part.free]))
theorem zxY (k:Nat) (hk:k < 255):za0 [.int .i64 k]=some (.int .u8 (pow8 k)):=by
 rw [zs0];unfold zrr
 have e1:Int.tmod (k:Int) 255=k:=by rw [Int.tmod_eq_emod_of_nonneg (by omega),Int.emod_eq_of_lt (by omega) (by omega)]
 have e2:Int.tmod ((k:Int)+255) 255=k:=by
  rw [Int.tmod_eq_emod_of_nonneg (by omega),Int.add_emod_right,Int.emod_eq_of_lt (by omega) (by omega)]
 rw [zaF,e1,zaF,zah (by omega) (by omega),zaF,e2]
 refine zcr (fun j=>((pow8 j,(k:Int),(j:Int),PUnit.unit),PUnit.unit)) k (by omega) ?_ ?_
 ·intro again j hj;dsimp only
  have hd:decide ((j:Int) < (k:Int))=true:=by simp; omega
  rw [hd,zaX,gf_double,zad,za3,zaF,zah (by omega) (by omega)]
  rfl
 ·intro again
  have hd:decide ((k:Int) < (k:Int))=false:=by simp
  dsimp only;rw [hd,zaq]
theorem zDc (tg:Tag) {ps:List Part} {n:Nat} (hn:n < 100000) (h0:0 < ps.length) (h1:ps.length < 255) (h:∀ x∈ps,x.2.length=n):
  zcd [.sl tg (pL ps)]=some (.sl .own (uL (sumP n (ps.map (·.2))))):=by
 rw [zy3,zdc];unfold zv5
 have hsum:∀ {qs:List Part},0 < qs.length→qs.length < 255→(∀ x∈qs,x.2.length=n)→∀ tg,zb2 [.sl tg (pL qs),.fn ID.synd_P_1 [] []]=some (.sl .own (uL (sumP n (qs.map (·.2))))):=by
  intro qs h0 h1 h tg;rw [zq4,zdc]
  have hl':∀ x∈(qs.map fun x=>(zb0 x.1 x.2,x.2)),x.2.length=n:=by
   intro x hx; obtain ⟨y,hy,rfl⟩:=List.mem_map.1 hx; exact h y hy
  have hm:(qs.map fun x=>(zb0 x.1 x.2,x.2)).map (·.2)=qs.map (·.2):=by rw [List.map_map]; rfl
  rw [←hm]
  have hlen:(qs.map fun x=>(zb0 x.1 x.2,x.2)).length=qs.length:=by simp
  rw [←hlen] at h0 h1
  generalize (qs.map fun x=>(zb0 x.1 x.2,x.2))=rs at*
  clear hm hlen h qs;unfold zj0
  have hb:(((pL rs).length:Int) == 0)=false:=by simp; intro e; rw [e] at h0; simp at h0
  obtain ⟨x0,hx0⟩:∃ x,rs[0]? =some x:=⟨_,List.getElem?_eq_getElem h0⟩;have hx0l:=hl' x0 (List.mem_of_getElem? hx0)
  rw [hb,zaq,zal (zcR hx0),zc0,zaa (by rfl),zdz,hx0l,zaa (by omega),zaa (by omega),zaa (by simp),Int.toNat_natCast,zsw]
  have hls:∀ l∈rs.map (·.2),l.length=n:=by intro l hl; obtain ⟨y,hy,rfl⟩:=List.mem_map.1 hl; exact hl' y hy
  let st:Nat→(List D×List D×Int×Int×PUnit)×PUnit:=fun k=>((uL (sumK (fun _=>1) n (rs.map (·.2)) k),pL rs,((pL rs).length:Int),(k:Int),PUnit.unit),PUnit.unit)
  have hst:st 0=((uL (List.replicate n 0),pL rs,((pL rs).length:Int),0,PUnit.unit),PUnit.unit):=rfl;rw [←hst]
  refine zcr st rs.length (by omega) ?_ ?_
  ·intro again k hk;dsimp only [st];obtain ⟨x,hx⟩:∃ x,rs[k]? =some x:=⟨_,List.getElem?_eq_getElem hk⟩;have hxl:=hl' x (List.mem_of_getElem? hx)
   have hd:decide ((k:Int) < ((pL rs).length:Int))=true:=by simp; omega
   have hsl:=zoz (f:=fun _=>1) hls (k:=k) (by simp; omega)
   rw [hd,zaX,zaa (by omega),zal (by simpa using zcR hx),zc0,zaa (by omega)]
   have hb2:(((uL x.2).length:Int) != ((uL (sumK (fun _=>1) n (rs.map (·.2)) k)).length:Int))=false:=by simp [hxl,hsl]
   have hone:zbQ [.int .i64 (k:Int)]=some (.int .u8 1):=by rw [zv2]; rfl
   rw [hb2,zaq,hone,zad,za3,zjt _ _ (by omega) (by omega) (by omega),zad,zbA,zaa (by omega),zaa (by omega),zdD,zdD,zii _ _ _ _ (by omega),zad,zbA,zaF,
    zah (by omega) (by omega),zaa (by rfl)]
   have he:addL (sumK (fun _=>1) n (rs.map (·.2)) k) (x.2.map (mul8 · 1))=sumK (fun _=>1) n (rs.map (·.2)) (k+1):=by
    unfold addL
    rw [if_pos (by simp [hsl,hxl])]
    have:(rs.map (·.2)).getD k []=x.2:=by simp [List.getD_eq_getElem?_getD,hx]
    simp only [sumK,this]
   rw [he];rfl
  ·intro again;dsimp only [st]
   have hd:decide ((rs.length:Int) < ((pL rs).length:Int))=false:=by simp
   rw [hd,zaq,zaa (by rfl),zaa (zhv _)]
   simp [sumP]
 rw [hsum (by simpa using h0) (by simpa using h1) (by intro x hx; obtain ⟨y,hy,rfl⟩:=List.mem_map.1 hx; exact h y hy),zad,zbA,zaa (by rfl),zaa (zhv _),List.map_map]
 rfl
theorem zDd (tg:Tag) {ps:List Part} {n:Nat} (hn:n < 100000) (h0:0 < ps.length) (h1:ps.length < 255) (h:∀ x∈ps,x.2.length=n):
  zce [.sl tg (pL ps)]=some (.sl .own (uL (sumQ n (ps.map (·.2))))):=by
 rw [zy4,zdc];unfold zv6
 have hsum:∀ {qs:List Part},0 < qs.length→qs.length < 255→(∀ x∈qs,x.2.length=n)→∀ tg,zb2 [.sl tg (pL qs),.fn ID.gf_Pow [] []]=some (.sl .own (uL (sumQ n (qs.map (·.2))))):=by
  intro qs h0 h1 h tg;rw [zq5,zdc]
  have hl':∀ x∈(qs.map fun x=>(zb0 x.1 x.2,x.2)),x.2.length=n:=by
   intro x hx; obtain ⟨y,hy,rfl⟩:=List.mem_map.1 hx; exact h y hy
  have hm:(qs.map fun x=>(zb0 x.1 x.2,x.2)).map (·.2)=qs.map (·.2):=by rw [List.map_map]; rfl
  rw [←hm]
  have hlen:(qs.map fun x=>(zb0 x.1 x.2,x.2)).length=qs.length:=by simp
  rw [←hlen] at h0 h1
  generalize (qs.map fun x=>(zb0 x.1 x.2,x.2))=rs at*
  clear hm hlen h qs;unfold zj1
  have hb:(((pL rs).length:Int) == 0)=false:=by simp; intro e; rw [e] at h0; simp at h0
  obtain ⟨x0,hx0⟩:∃ x,rs[0]? =some x:=⟨_,List.getElem?_eq_getElem h0⟩;have hx0l:=hl' x0 (List.mem_of_getElem? hx0)
  rw [hb,zaq,zal (zcR hx0),zc0,zaa (by rfl),zdz,hx0l,zaa (by omega),zaa (by omega),zaa (by simp),Int.toNat_natCast,zsw]
  have hls:∀ l∈rs.map (·.2),l.length=n:=by intro l hl; obtain ⟨y,hy,rfl⟩:=List.mem_map.1 hl; exact hl' y hy
  let st:Nat→(List D×List D×Int×Int×PUnit)×PUnit:=fun k=>((uL (sumK pow8 n (rs.map (·.2)) k),pL rs,((pL rs).length:Int),(k:Int),PUnit.unit),PUnit.unit)
  have hst:st 0=((uL (List.replicate n 0),pL rs,((pL rs).length:Int),0,PUnit.unit),PUnit.unit):=rfl;rw [←hst]
  refine zcr st rs.length (by omega) ?_ ?_
  ·intro again k hk;dsimp only [st];obtain ⟨x,hx⟩:∃ x,rs[k]? =some x:=⟨_,List.getElem?_eq_getElem hk⟩;have hxl:=hl' x (List.mem_of_getElem? hx)
   have hd:decide ((k:Int) < ((pL rs).length:Int))=true:=by simp; omega
   have hsl:=zoz (f:=pow8) hls (k:=k) (by simp; omega)
   rw [hd,zaX,zaa (by omega),zal (by simpa using zcR hx),zc0,zaa (by omega)]
   have hb2:(((uL x.2).length:Int) != ((uL (sumK pow8 n (rs.map (·.2)) k)).length:Int))=false:=by simp [hxl,hsl]
   have hone:=zxY k (by omega)
   rw [hb2,zaq,hone,zad,za3,zjt _ _ (by omega) (ziX k).1 (ziX k).2,zad,zbA,zaa (by omega),zaa (by omega),zdD,zdD,zii _ _ _ _ (by omega),zad,zbA,zaF,
    zah (by omega) (by omega),zaa (by rfl)]
   have he:addL (sumK pow8 n (rs.map (·.2)) k) (x.2.map (mul8 · (pow8 k)))=sumK pow8 n (rs.map (·.2)) (k+1):=by
    unfold addL
    rw [if_pos (by simp [hsl,hxl])]
    have:(rs.map (·.2)).getD k []=x.2:=by simp [List.getD_eq_getElem?_getD,hx]
    simp only [sumK,this]
   rw [he];rfl
  ·intro again;dsimp only [st]
   have hd:decide ((rs.length:Int) < ((pL rs).length:Int))=false:=by simp
   rw [hd,zaq,zaa (by rfl),zaa (zhv _)]
   simp [sumQ]
 rw [hsum (by simpa using h0) (by simpa using h1) (by intro x hx; obtain ⟨y,hy,rfl⟩:=List.mem_map.1 hx; exact h y hy),zad,zbA,zaa (by rfl),zaa (zhv _),List.map_map]
 rfl
end Wf

