/- A part of the proof: lemmas that the law's row leans on. -/
import Derived.Test.YtlbdpbbpoghncaaGreatPd
set_option linter.all false
namespace Wf
open Go Go.RowKit Go.Proofs
open PUnit (unit)
abbrev Zp:=List D→Option D
abbrev Zs:=List D→List Tb→Option Ans
def dd:Nat→List SS→List SS
 | 0,l=>l
 | n+1,l=>.dead::dd n l
set_option linter.unusedVariables false
set_option maxRecDepth 100000
def zgw:Ann:={ loops:=[] }
noncomputable def zac:Zp:=denP Tryz.prog (zay []) zgw [0] ID.wattlekeep_Within
theorem zjE:Sound Tryz.prog ID.wattlekeep_Within (.pure [0] zac):=zao (zaA []) zbg ⟨Tryz.f12,by kernel_rfl,by kernel_rfl,by kernel_rfl⟩
noncomputable def zdn:Fact Tryz.prog:=⟨ID.wattlekeep_Within,(.pure [0] zac),zjE⟩
noncomputable def zfg (a0 a1:Int):Option D:=
 brK (decide (a1 < 1))
  (some (.int .i64 0))
  (sif (a1≠0) <|
  letN (Int.tmod a0 a1) fun n1=>
  brK (decide (n1 < 0))
   (letN (IntKind.i64.wrap (n1+a1)) fun n2=>
   some (.int .i64 n2))
   (some (.int .i64 n1)))
theorem zm7 (a0 a1:Int):denP Tryz.prog (zay []) zgw [0] ID.wattlekeep_Within [.int .i64 a0,.int .i64 a1]=zfg a0 a1:=by kernel_rfl
theorem zkl (a0 a1:Int):zac [.int .i64 a0,.int .i64 a1]=zfg a0 a1:=zm7 a0 a1
def zhu:Ann:={ loops:=[] }
noncomputable def zbC:Zp:=denP Tryz.prog (zay [(ID.wattlekeep_Within,(.pure [0] zac))]) zhu [0] ID.wattleplay_Geom
theorem zk5:Sound Tryz.prog ID.wattleplay_Geom (.pure [0] zbC):=zao (zaA [zdn]) zbg ⟨Tryz.f45,by kernel_rfl,by kernel_rfl,by kernel_rfl⟩
noncomputable def zmb:Fact Tryz.prog:=⟨ID.wattleplay_Geom,(.pure [0] zbC),zk5⟩
noncomputable def zgc (zac:Zp) (a0:Int):Option D:=
 zar (zac [.int .i64 a0,.int .i64 2]) fun r1=>
 asI .i64 r1 fun i2=>
 letN (IntKind.i64.wrap (5+i2)) fun n3=>
 letN (IntKind.i64.wrap (Int.tdiv a0 (2:Int))) fun n4=>
 zar (zac [.int .i64 n4,.int .i64 3]) fun r5=>
 asI .i64 r5 fun i6=>
 sif (0≤i6) <|
 getK ([.int .i64 1,.int .i64 2,.int .i64 4]) (i6.toNat) fun d7=>
 asI .i64 d7 fun i8=>
 letN (IntKind.i64.wrap (Int.tdiv a0 (6:Int))) fun n9=>
 zar (zac [.int .i64 n9,.int .i64 4]) fun r10=>
 asI .i64 r10 fun i11=>
 letN (IntKind.i64.wrap (3+i11)) fun n12=>
 brK (n3 == 6)
  (letN (IntKind.i64.wrap (Int.tdiv a0 (6:Int))) fun n13=>
  zar (zac [.int .i64 n13,.int .i64 4]) fun r14=>
  asI .i64 r14 fun i15=>
  letN (IntKind.i64.wrap (4+i15)) fun n16=>
  letN (IntKind.i64.wrap (Int.tdiv a0 (24:Int))) fun n17=>
  zar (zac [.int .i64 n17,.int .i64 40]) fun r18=>
  asI .i64 r18 fun i19=>
  brK (i19 == 36)
   (zar (zac [.int .i64 a0,.int .i64 9]) fun r20=>
   asI .i64 r20 fun i21=>
   some (.agg [.int .i64 i21,.int .i64 n16,.int .i64 i8]))
   (brK (i19 == 37)
    (zar (zac [.int .i64 a0,.int .i64 12]) fun r22=>
    asI .i64 r22 fun i23=>
    letN (IntKind.i64.wrap (i23 - 1)) fun n24=>
    some (.agg [.int .i64 n3,.int .i64 n24,.int .i64 i8]))
    (brK (i19 == 38)
     (zar (zac [.int .i64 a0,.int .i64 9]) fun r25=>
     asI .i64 r25 fun i26=>
     letN (IntKind.i64.wrap (i26 - 1)) fun n27=>
     some (.agg [.int .i64 n3,.int .i64 n16,.int .i64 n27]))
     (brK (i19 == 39)
      (some (.agg [.int .i64 n3,.int .i64 8,.int .i64 i8]))
      (some (.agg [.int .i64 n3,.int .i64 n16,.int .i64 i8]))))))
  (letN (IntKind.i64.wrap (Int.tdiv a0 (24:Int))) fun n28=>
  zar (zac [.int .i64 n28,.int .i64 40]) fun r29=>
  asI .i64 r29 fun i30=>
  brK (i30 == 36)
   (zar (zac [.int .i64 a0,.int .i64 9]) fun r31=>
   asI .i64 r31 fun i32=>
   some (.agg [.int .i64 i32,.int .i64 n12,.int .i64 i8]))
   (brK (i30 == 37)
    (zar (zac [.int .i64 a0,.int .i64 12]) fun r33=>
    asI .i64 r33 fun i34=>
    letN (IntKind.i64.wrap (i34 - 1)) fun n35=>
    some (.agg [.int .i64 n3,.int .i64 n35,.int .i64 i8]))
    (brK (i30 == 38)
     (zar (zac [.int .i64 a0,.int .i64 9]) fun r36=>
     asI .i64 r36 fun i37=>
     letN (IntKind.i64.wrap (i37 - 1)) fun n38=>
     some (.agg [.int .i64 n3,.int .i64 n12,.int .i64 n38]))
     (brK (i30 == 39)
      (some (.agg [.int .i64 n3,.int .i64 8,.int .i64 i8]))
      (some (.agg [.int .i64 n3,.int .i64 n12,.int .i64 i8]))))))
theorem zpv (zac:Zp) (a0:Int):denP Tryz.prog (zay [(ID.wattlekeep_Within,(.pure [0] zac))]) zhu [0] ID.wattleplay_Geom [.int .i64 a0]=zgc zac a0:=by kernel_rfl
theorem zmc (a0:Int):zbC [.int .i64 a0]=zgc zac a0:=zpv zac a0
def zgx:Ann:={ loops:=[] }
noncomputable def zah:Zp:=denP Tryz.prog (zay []) zgx [0] ID.wattleref01_Check
theorem zjF:Sound Tryz.prog ID.wattleref01_Check (.pure [0] zah):=zao (zaA []) zbg ⟨Tryz.f46,by kernel_rfl,by kernel_rfl,by kernel_rfl⟩
noncomputable def zdo:Fact Tryz.prog:=⟨ID.wattleref01_Check,(.pure [0] zah),zjF⟩
noncomputable def zfh (a0_0 a0_1 a0_2:Int):Option D:=
 brK (a0_0 == 6)
  (brK (a0_0 == 5)
   (brK (decide (a0_1≥4))
    (brK (decide (a0_1≤8))
     (brK (a0_2 == 1)
      (some (.bool true))
      (brK (a0_2 == 2)
       (some (.bool true))
       (some (.bool (a0_2 == 4)))))
     (some (.bool false)))
    (some (.bool false)))
   (brK (a0_0 == 6)
    (brK (decide (a0_1≥4))
     (brK (decide (a0_1≤8))
      (brK (a0_2 == 1)
       (some (.bool true))
       (brK (a0_2 == 2)
        (some (.bool true))
        (some (.bool (a0_2 == 4)))))
      (some (.bool false)))
     (some (.bool false)))
    (some (.bool false))))
  (brK (a0_0 == 5)
   (brK (decide (a0_1≥3))
    (brK (decide (a0_1≤8))
     (brK (a0_2 == 1)
      (some (.bool true))
      (brK (a0_2 == 2)
       (some (.bool true))
       (some (.bool (a0_2 == 4)))))
     (some (.bool false)))
    (some (.bool false)))
   (brK (a0_0 == 6)
    (brK (decide (a0_1≥3))
     (brK (decide (a0_1≤8))
      (brK (a0_2 == 1)
       (some (.bool true))
       (brK (a0_2 == 2)
        (some (.bool true))
        (some (.bool (a0_2 == 4)))))
      (some (.bool false)))
     (some (.bool false)))
    (some (.bool false))))
theorem zm8 (a0_0 a0_1 a0_2:Int):denP Tryz.prog (zay []) zgx [0] ID.wattleref01_Check [.agg [.int .i64 a0_0,.int .i64 a0_1,.int .i64 a0_2]]=zfh a0_0 a0_1 a0_2:=by kernel_rfl
theorem zkm (a0_0 a0_1 a0_2:Int):zah [.agg [.int .i64 a0_0,.int .i64 a0_1,.int .i64 a0_2]]=zfh a0_0 a0_1 a0_2:=zm8 a0_0 a0_1 a0_2
def zhv:Ann:={ loops:=[] }
noncomputable def zbD:Zp:=denP Tryz.prog (zay [(ID.wattleplay_Geom,(.pure [0] zbC)),(ID.wattleref01_Check,(.pure [0] zah))]) zhv [0] ID.wattleplay_Good
theorem zk6:Sound Tryz.prog ID.wattleplay_Good (.pure [0] zbD):=zao (zaA [zmb,zdo]) zbg ⟨Tryz.f9,by kernel_rfl,by kernel_rfl,by kernel_rfl⟩
noncomputable def zmd:Fact Tryz.prog:=⟨ID.wattleplay_Good,(.pure [0] zbD),zk6⟩
noncomputable def zgd (zbC zah:Zp) (a0:Int):Option D:=
 zar (zbC [.int .i64 a0]) fun r1=>
 asAgg r1 fun cs2=>
 zaz ([Lf.int .i64,Lf.int .i64,Lf.int .i64]) cs2 fun c3=>
 zar (zah [.agg [.int .i64 c3.1,.int .i64 c3.2.1,.int .i64 c3.2.2.1]]) fun r4=>
 asB r4 fun b5=>
 brK (!b5)
  (some (.agg [.int .i64 5,.int .i64 3,.int .i64 1]))
  (some (.agg [.int .i64 c3.1,.int .i64 c3.2.1,.int .i64 c3.2.2.1]))
theorem zpw (zbC zah:Zp) (a0:Int):denP Tryz.prog (zay [(ID.wattleplay_Geom,(.pure [0] zbC)),(ID.wattleref01_Check,(.pure [0] zah))]) zhv [0] ID.wattleplay_Good [.int .i64 a0]=zgd zbC zah a0:=by kernel_rfl
theorem zme (a0:Int):zbD [.int .i64 a0]=zgd zbC zah a0:=zpw zbC zah a0
def zqs:Ann:={ loops:=[],pubs:=[(1,[(0,128,8225)])],ks:=[(8225,true)] }
noncomputable def zdz:Zs:=denS Tryz.prog (zay []) zqs [0] ID.disk_New
theorem zte:Sound Tryz.prog ID.disk_New (.st [] [0] [(8225,true)] zdz):=za9 (zaA []) zbg ⟨Tryz.f94,by kernel_rfl,by kernel_rfl,by kernel_rfl⟩
noncomputable def zvZ:Fact Tryz.prog:=⟨ID.disk_New,(.st [] [0] [(8225,true)] zdz),zte⟩
noncomputable def zpx (T0:Tb):Option Ans:=
 letT (T0++[List.map D.own0 (List.reverse ([.bool false,.sl .nil []]++List.replicate 1664 (.int .u8 0)))]) fun U1=>
 some (Ans.mk (.h (8225:Nat) (T0.length) (0:Nat)) [] [U1])
theorem zBu (T0:Tb):denS Tryz.prog (zay []) zqs [0] ID.disk_New [] [T0]=zpx T0:=by kernel_rfl
theorem zv0 (T0:Tb):zdz [] [T0]=zpx T0:=zBu T0
def zoo:Ann:={ loops:=[(1,dd 4 (.val (.cell (.hnd (2496:Nat)))::dd 9 [.val (.cell (.int .i64)),.val (.cell (.int .i64))]))],pubs:=[(3,[(4,42,2496)])],ks:=[(2496,true),(8225,true)] }
noncomputable def zbx:Zs:=denS Tryz.prog (zay [(ID.disk_New,(.st [] [0] [(8225,true)] zdz))]) zoo [0,0] ID.bench_New
theorem zsd:Sound Tryz.prog ID.bench_New (.st [] [0,0] [(2496,true),(8225,true)] zbx):=za9 (zaA [zvZ]) zbg ⟨Tryz.f47,by kernel_rfl,by kernel_rfl,by kernel_rfl⟩
noncomputable def zmJ:Fact Tryz.prog:=⟨ID.bench_New,(.st [] [0,0] [(2496,true),(8225,true)] zbx),zsd⟩
noncomputable def zm9 (zdz:Zs) (a0:Int) (T0 T1:Tb):Option Ans:=
 brK (decide (a0 < 1))
  (some (Ans.mk (.tup [D.nilp,.int .i64 1]) [] [T0,T1]))
  (brK (decide (a0 > 8))
   (some (Ans.mk (.tup [D.nilp,.int .i64 1]) [] [T0,T1]))
   (letT (T0++[[D.own0 (.int .i64 0),D.own0 (.int .i64 (-1)),D.own0 (.bool false),D.own0 (.sl .nil [])]]) fun U1=>
   zb2 (α:=(Nat×Int×Int×PUnit)×List (List D)×List (List D)×PUnit) (fun again2 ((x3,(i4,(i5,_))),(U6,(U7,_)))=>
    brK (decide (i5 < i4))
     (getK U6 x3 fun d8=>
     getK d8 ((3:Nat)) fun d9=>
     zbn d9 fun l10=>
     zar (zdz [] [U7]) fun r11=>
     nilK r11.outs <|
     zc1 r11.tbs fun c12 q13=>
     nilK q13 <|
     sif (zkO r11.r=true) <|
     sif (zec (1:Nat) [r11.r]=true) <|
     getK U6 x3 fun d14=>
     getK d14 ((3:Nat)) fun d15=>
     zbn d15 fun l16=>
     sif (l10.length+1≤4294967296) <|
     sif (zec (1:Nat) [r11.r]=true) <|
     sif (l10.length=l16.length) <|
     letT (setT U6 x3 (3:Nat) D.undef) fun U17=>
     getK U17 x3 fun d18=>
     sif (4≤d18.length) <|
     sif (l10.length+1=List.length (l16++[r11.r])) <|
     sif (zdh (l16++[r11.r])=true) <|
     sif (zgu (1:Nat) (l16++[r11.r])=true) <|
     letT (za7 U17 x3 (3:Nat) [.sl .own (l16++[r11.r])]) fun U19=>
     letN (IntKind.i64.wrap (i5+1)) fun n20=>
     again2 (((x3,i4,n20,unit),U19,c12,unit)))
     (some (Ans.mk (.tup [.h (2496) x3 (0:Nat),.int .i64 0]) [] [U6,U7])))
    (((T0.length,a0,(0:Int),unit),U1,T1,unit))))
theorem zzk (zdz:Zs) (a0:Int) (T0 T1:Tb):denS Tryz.prog (zay [(ID.disk_New,(.st [] [0] [(8225,true)] zdz))]) zoo [0,0] ID.bench_New [.int .i64 a0] [T0,T1]=zm9 zdz a0 T0 T1:=by kernel_rfl
theorem ztf (a0:Int) (T0 T1:Tb):zbx [.int .i64 a0] [T0,T1]=zm9 zdz a0 T0 T1:=zzk zdz a0 T0 T1
def zfY:Ann:={ loops:=[] }
noncomputable def zaK:Zp:=denP Tryz.prog (zay [(ID.wattleref01_Check,(.pure [0] zah))]) zfY [0] ID.wattleref01_Budget
theorem zi0:Sound Tryz.prog ID.wattleref01_Budget (.pure [0] zaK):=zao (zaA [zdo]) zbg ⟨Tryz.f95,by kernel_rfl,by kernel_rfl,by kernel_rfl⟩
noncomputable def zfG:Fact Tryz.prog:=⟨ID.wattleref01_Budget,(.pure [0] zaK),zi0⟩
noncomputable def zeR (zah:Zp) (a0_0 a0_1 a0_2:Int):Option D:=
 zar (zah [.agg [.int .i64 a0_0,.int .i64 a0_1,.int .i64 a0_2]]) fun r1=>
 asB r1 fun b2=>
 brK (!b2)
  (some (.int .i64 0))
  (letN (IntKind.i64.wrap (a0_0 - 4)) fun n3=>
  some (.int .i64 n3))
theorem zmf (zah:Zp) (a0_0 a0_1 a0_2:Int):denP Tryz.prog (zay [(ID.wattleref01_Check,(.pure [0] zah))]) zfY [0] ID.wattleref01_Budget [.agg [.int .i64 a0_0,.int .i64 a0_1,.int .i64 a0_2]]=zeR zah a0_0 a0_1 a0_2:=by kernel_rfl
theorem zjG (a0_0 a0_1 a0_2:Int):zaK [.agg [.int .i64 a0_0,.int .i64 a0_1,.int .i64 a0_2]]=zeR zah a0_0 a0_1 a0_2:=zmf zah a0_0 a0_1 a0_2
def zgy:Ann:={ loops:=[] }
noncomputable def zag:Zp:=denP Tryz.prog (zay [(ID.wattleref01_Check,(.pure [0] zah)),(ID.wattleref01_Budget,(.pure [0] zaK))]) zgy [0] ID.wattleref01_Width
theorem zjH:Sound Tryz.prog ID.wattleref01_Width (.pure [0] zag):=zao (zaA [zdo,zfG]) zbg ⟨Tryz.f49,by kernel_rfl,by kernel_rfl,by kernel_rfl⟩
noncomputable def zdp:Fact Tryz.prog:=⟨ID.wattleref01_Width,(.pure [0] zag),zjH⟩
noncomputable def zfi (zah zaK:Zp) (a0_0 a0_1 a0_2:Int):Option D:=
 zar (zah [.agg [.int .i64 a0_0,.int .i64 a0_1,.int .i64 a0_2]]) fun r1=>
 asB r1 fun b2=>
 brK (!b2)
  (some (.int .i64 0))
  (zar (zaK [.agg [.int .i64 a0_0,.int .i64 a0_1,.int .i64 a0_2]]) fun r3=>
  asI .i64 r3 fun i4=>
  letN (IntKind.i64.wrap (a0_1 - i4)) fun n5=>
  some (.int .i64 n5))
theorem zna (zah zaK:Zp) (a0_0 a0_1 a0_2:Int):denP Tryz.prog (zay [(ID.wattleref01_Check,(.pure [0] zah)),(ID.wattleref01_Budget,(.pure [0] zaK))]) zgy [0] ID.wattleref01_Width [.agg [.int .i64 a0_0,.int .i64 a0_1,.int .i64 a0_2]]=zfi zah zaK a0_0 a0_1 a0_2:=by kernel_rfl
theorem zkn (a0_0 a0_1 a0_2:Int):zag [.agg [.int .i64 a0_0,.int .i64 a0_1,.int .i64 a0_2]]=zfi zah zaK a0_0 a0_1 a0_2:=zna zah zaK a0_0 a0_1 a0_2
def zgz:Ann:={ loops:=[(1,.val (.cell (.int .i64))::dd 2 (.own 1::dd 7 [.val (.cell (.int .i64)),.val (.cell (.int .i64))]))] }
noncomputable def zau:Zp:=denP Tryz.prog (zay [(ID.wattlekeep_Within,(.pure [0] zac))]) zgz [1] ID.wattleplay_Sector
theorem zjI:Sound Tryz.prog ID.wattleplay_Sector (.pure [1] zau):=zao (zaA [zdn]) zbg ⟨Tryz.f13,by kernel_rfl,by kernel_rfl,by kernel_rfl⟩
noncomputable def zee:Fact Tryz.prog:=⟨ID.wattleplay_Sector,(.pure [1] zau),zjI⟩
noncomputable def zfj (zac:Zp) (a0:Int):Option D:=
 zar (zac [.int .i64 a0,.int .i64 11]) fun r1=>
 asI .i64 r1 fun i2=>
 brK (i2 == 10)
  (some (.sl .own [.int .u8 0,.int .u8 0,.int .u8 0,.int .u8 0,.int .u8 0,.int .u8 0,.int .u8 0,.int .u8 0,.int .u8 0,.int .u8 0,.int .u8 0,.int .u8 0,.int .u8 0,.int .u8 0,.int .u8 0,.int .u8 0,.int .u8 0,.int .u8 0,.int .u8 0,.int .u8 0,.int .u8 0,.int .u8 0,.int .u8 0,.int .u8 0,.int .u8 0,.int .u8 0,.int .u8 0,.int .u8 0,.int .u8 0,.int .u8 0,.int .u8 0,.int .u8 0]))
  (zb2 (α:=(Int×List D×Int×Int×PUnit)×PUnit) (fun again3 ((i4,(l5,(i6,(i7,_)))),_)=>
   brK (decide (i7 < i6))
    (letN (IntKind.i64.wrap (Int.tdiv i4 (7:Int))) fun n8=>
    letN (bits BinOp.or IntKind.i64 n8 (1:Int)) fun n9=>
    letN (IntKind.i64.wrap (i7*n9)) fun n10=>
    letN (IntKind.i64.wrap (i4+n10)) fun n11=>
    letN (IntKind.wrap IntKind.u8 n11) fun n12=>
    sif (0≤i7) <|
    sif (i7.toNat < l5.length) <|
    getK l5 (0+i7.toNat) fun d13=>
    sif (D.isAgg d13=false) <|
    letN (IntKind.i64.wrap (i7+1)) fun n14=>
    sif (l5.length=List.length (List.set l5 (0+i7.toNat) (D.int .u8 n12))) <|
    again3 (((i4,List.set l5 (0+i7.toNat) (.int .u8 n12),i6,n14,unit),unit)))
    (sif (l5.length=l5.length) <|
    sif (List.all l5 D.free=true) <|
    some (.sl .own l5)))
   (((a0,[.int .u8 0,.int .u8 0,.int .u8 0,.int .u8 0,.int .u8 0,.int .u8 0,.int .u8 0,.int .u8 0,.int .u8 0,.int .u8 0,.int .u8 0,.int .u8 0,.int .u8 0,.int .u8 0,.int .u8 0,.int .u8 0,.int .u8 0,.int .u8 0,.int .u8 0,.int .u8 0,.int .u8 0,.int .u8 0,.int .u8 0,.int .u8 0,.int .u8 0,.int .u8 0,.int .u8 0,.int .u8 0,.int .u8 0,.int .u8 0,.int .u8 0,.int .u8 0],(32:Int),(0:Int),unit),unit)))
theorem znb (zac:Zp) (a0:Int):denP Tryz.prog (zay [(ID.wattlekeep_Within,(.pure [0] zac))]) zgz [1] ID.wattleplay_Sector [.int .i64 a0]=zfj zac a0:=by kernel_rfl
theorem zko (a0:Int):zau [.int .i64 a0]=zfj zac a0:=znb zac a0
def zfZ:Ann:={ loops:=[(0,.val (.cell .lent)::.val (.cell (.int .i64))::dd 3 [.own 1,.val (.cell (.int .i64))])] }
noncomputable def zbe:Zp:=denP Tryz.prog (zay [(ID.wattleplay_Sector,(.pure [1] zau))]) zfZ [1] ID.wattleplay_Sectors
theorem zi1:Sound Tryz.prog ID.wattleplay_Sectors (.pure [1] zbe):=zao (zaA [zee]) zbg ⟨Tryz.f48,by kernel_rfl,by kernel_rfl,by kernel_rfl⟩
noncomputable def zjJ:Fact Tryz.prog:=⟨ID.wattleplay_Sectors,(.pure [1] zbe),zi1⟩
noncomputable def zeS (zau:Zp) (a0:List D) (a1:Int):Option D:=
 zb2 (α:=(List D×Int×List D×Int×PUnit)×PUnit) (fun again1 ((l2,(i3,(l4,(i5,_)))),_)=>
  brK (decide (i5 < i3))
   (letN (IntKind.i64.wrap ((3:Int)*i5)) fun n6=>
   brK (decide (i5 < (↑(l2.length):Int)))
    (sif (0≤i5) <|
    getK l2 (i5.toNat) fun d7=>
    asI .i64 d7 fun i8=>
    zar (zau [.int .i64 i8]) fun r9=>
    zbn r9 fun l10=>
    sif (0+l10.length≤l10.length) <|
    sif (l4.length+1≤4294967296) <|
    sif (l4.length=l4.length) <|
    letN (IntKind.i64.wrap (i5+1)) fun n11=>
    sif (l4.length+1=List.length (l4++[D.sl .fresh (cut 0 l10.length l10)])) <|
    again1 (((l2,i3,l4++[.sl .fresh (cut 0 l10.length l10)],n11,unit),unit)))
    (zar (zau [.int .i64 n6]) fun r12=>
    zbn r12 fun l13=>
    sif (0+l13.length≤l13.length) <|
    sif (l4.length+1≤4294967296) <|
    sif (l4.length=l4.length) <|
    letN (IntKind.i64.wrap (i5+1)) fun n14=>
    sif (l4.length+1=List.length (l4++[D.sl .fresh (cut 0 l13.length l13)])) <|
    again1 (((l2,i3,l4++[.sl .fresh (cut 0 l13.length l13)],n14,unit),unit))))
   (sif (l4.length=l4.length) <|
   sif (List.all l4 D.free=true) <|
   some (.sl .own l4)))
  (((a0,a1,[],(0:Int),unit),unit))
theorem zmg (zau:Zp) (tga0:Tag) (a0:List D) (a1:Int):denP Tryz.prog (zay [(ID.wattleplay_Sector,(.pure [1] zau))]) zfZ [1] ID.wattleplay_Sectors [.sl tga0 a0,.int .i64 a1]=zeS zau (D.lentL a0) a1:=by kernel_rfl
theorem zjK (tga0:Tag) (a0:List D) (a1:Int):zbe [.sl tga0 a0,.int .i64 a1]=zeS zau (D.lentL a0) a1:=zmg zau tga0 a0 a1
def zgR:Ann:={ loops:=[] }
noncomputable def zax:Zp:=denP Tryz.prog (zay [(ID.wattleref01_Check,(.pure [0] zah))]) zgR [0] ID.wattleref01_fine
theorem zkp:Sound Tryz.prog ID.wattleref01_fine (.pure [0] zax):=zao (zaA [zdo]) zbg ⟨Tryz.f59,by kernel_rfl,by kernel_rfl,by kernel_rfl⟩
noncomputable def zev:Fact Tryz.prog:=⟨ID.wattleref01_fine,(.pure [0] zax),zkp⟩
noncomputable def zfH (zah:Zp) (a0_0 a0_1 a0_2 a1:Int):Option D:=
 zar (zah [.agg [.int .i64 a0_0,.int .i64 a0_1,.int .i64 a0_2]]) fun r1=>
 asB r1 fun b2=>
 brK b2
  (brK (decide (a1≥0))
   (some (.bool (decide (a1 < 16))))
   (some (.bool false)))
  (some (.bool false))
theorem zop (zah:Zp) (a0_0 a0_1 a0_2 a1:Int):denP Tryz.prog (zay [(ID.wattleref01_Check,(.pure [0] zah))]) zgR [0] ID.wattleref01_fine [.agg [.int .i64 a0_0,.int .i64 a0_1,.int .i64 a0_2],.int .i64 a1]=zfH zah a0_0 a0_1 a0_2 a1:=by kernel_rfl
theorem zk7 (a0_0 a0_1 a0_2 a1:Int):zax [.agg [.int .i64 a0_0,.int .i64 a0_1,.int .i64 a0_2],.int .i64 a1]=zfH zah a0_0 a0_1 a0_2 a1:=zop zah a0_0 a0_1 a0_2 a1
def zf0:Ann:={ loops:=[] }
noncomputable def zaJ:Zp:=denP Tryz.prog (zay [(ID.wattleref01_fine,(.pure [0] zax))]) zf0 [0,0] ID.wattleref01_Parity
theorem zi2:Sound Tryz.prog ID.wattleref01_Parity (.pure [0,0] zaJ):=zao (zaA [zev]) zbg ⟨Tryz.f91,by kernel_rfl,by kernel_rfl,by kernel_rfl⟩
noncomputable def zfI:Fact Tryz.prog:=⟨ID.wattleref01_Parity,(.pure [0,0] zaJ),zi2⟩
noncomputable def zeT (zax:Zp) (a0_0 a0_1 a0_2 a1:Int):Option D:=
 zar (zax [.agg [.int .i64 a0_0,.int .i64 a0_1,.int .i64 a0_2],.int .i64 a1]) fun r1=>
 asB r1 fun b2=>
 brK (!b2)
  (some (.tup [.int .i64 (-1),.int .i64 (-1)]))
  (letN (IntKind.i64.wrap (a0_1 - 1)) fun n3=>
  sif (a0_2≠0) <|
  letN (IntKind.i64.wrap (Int.tdiv a1 a0_2)) fun n4=>
  sif (a0_1≠0) <|
  letN (Int.tmod n4 a0_1) fun n5=>
  letN (IntKind.i64.wrap (n3 - n5)) fun n6=>
  brK (a0_0 == 5)
   (some (.tup [.int .i64 n6,.int .i64 (-1)]))
   (letN (IntKind.i64.wrap (n6+1)) fun n7=>
   sif (a0_1≠0) <|
   letN (Int.tmod n7 a0_1) fun n8=>
   some (.tup [.int .i64 n6,.int .i64 n8])))
theorem zmh (zax:Zp) (a0_0 a0_1 a0_2 a1:Int):denP Tryz.prog (zay [(ID.wattleref01_fine,(.pure [0] zax))]) zf0 [0,0] ID.wattleref01_Parity [.agg [.int .i64 a0_0,.int .i64 a0_1,.int .i64 a0_2],.int .i64 a1]=zeT zax a0_0 a0_1 a0_2 a1:=by kernel_rfl
theorem zjL (a0_0 a0_1 a0_2 a1:Int):zaJ [.agg [.int .i64 a0_0,.int .i64 a0_1,.int .i64 a0_2],.int .i64 a1]=zeT zax a0_0 a0_1 a0_2 a1:=zmh zax a0_0 a0_1 a0_2 a1
def zgS:Ann:={ loops:=[] }
noncomputable def zbh:Zp:=denP Tryz.prog (zay [(ID.wattleref01_fine,(.pure [0] zax)),(ID.wattleref01_Width,(.pure [0] zag)),(ID.wattleref01_Parity,(.pure [0,0] zaJ)),(ID.wattleref01_Budget,(.pure [0] zaK))]) zgS [0] ID.wattleref01_Disk
theorem zkq:Sound Tryz.prog ID.wattleref01_Disk (.pure [0] zbh):=zao (zaA [zev,zdp,zfI,zfG]) zbg ⟨Tryz.f52,by kernel_rfl,by kernel_rfl,by kernel_rfl⟩
noncomputable def zk8:Fact Tryz.prog:=⟨ID.wattleref01_Disk,(.pure [0] zbh),zkq⟩
noncomputable def zfJ (zax zag zaJ zaK:Zp) (a0_0 a0_1 a0_2 a1 a2:Int):Option D:=
 zar (zax [.agg [.int .i64 a0_0,.int .i64 a0_1,.int .i64 a0_2],.int .i64 a1]) fun r1=>
 asB r1 fun b2=>
 brK (!b2)
  (some (.int .i64 (-1)))
  (brK (decide (a2 < 0))
   (some (.int .i64 (-1)))
   (zar (zag [.agg [.int .i64 a0_0,.int .i64 a0_1,.int .i64 a0_2]]) fun r3=>
   asI .i64 r3 fun i4=>
   brK (decide (a2≥i4))
    (some (.int .i64 (-1)))
    (zar (zaJ [.agg [.int .i64 a0_0,.int .i64 a0_1,.int .i64 a0_2],.int .i64 a1]) fun r5=>
    ze3 r5 fun ts6=>
    zaz ([Lf.any,Lf.any]) ts6 fun c7=>
    asI .i64 c7.1 fun i8=>
    asI .i64 c7.2.1 fun i9=>
    zar (zaK [.agg [.int .i64 a0_0,.int .i64 a0_1,.int .i64 a0_2]]) fun r10=>
    asI .i64 r10 fun i11=>
    letN (IntKind.i64.wrap (i8+i11)) fun n12=>
    letN (IntKind.i64.wrap (n12+a2)) fun n13=>
    sif (a0_1≠0) <|
    letN (Int.tmod n13 a0_1) fun n14=>
    some (.int .i64 n14))))
theorem zoq (zax zag zaJ zaK:Zp) (a0_0 a0_1 a0_2 a1 a2:Int):denP Tryz.prog (zay [(ID.wattleref01_fine,(.pure [0] zax)),(ID.wattleref01_Width,(.pure [0] zag)),(ID.wattleref01_Parity,(.pure [0,0] zaJ)),(ID.wattleref01_Budget,(.pure [0] zaK))]) zgS [0] ID.wattleref01_Disk [.agg [.int .i64 a0_0,.int .i64 a0_1,.int .i64 a0_2],.int .i64 a1,.int .i64 a2]=zfJ zax zag zaJ zaK a0_0 a0_1 a0_2 a1 a2:=by kernel_rfl
theorem zk9 (a0_0 a0_1 a0_2 a1 a2:Int):zbh [.agg [.int .i64 a0_0,.int .i64 a0_1,.int .i64 a0_2],.int .i64 a1,.int .i64 a2]=zfJ zax zag zaJ zaK a0_0 a0_1 a0_2 a1 a2:=zoq zax zag zaJ zaK a0_0 a0_1 a0_2 a1 a2
def zgA:Ann:={ loops:=[(0,.val (.cell .lent)::dd 4 [.val (.cell .lent),.val (.cell (.int .i64)),.val (.cell (.int .i64))])] }
noncomputable def zaO:Zp:=denP Tryz.prog (zay []) zgA [0] ID.wattleref01_alike
theorem zjM:Sound Tryz.prog ID.wattleref01_alike (.pure [0] zaO):=zao (zaA []) zbg ⟨Tryz.f126,by kernel_rfl,by kernel_rfl,by kernel_rfl⟩
noncomputable def zf1:Fact Tryz.prog:=⟨ID.wattleref01_alike,(.pure [0] zaO),zjM⟩
noncomputable def zfk (a0:List D):Option D:=
 zb2 (α:=(List D×List D×Int×Int×PUnit)×PUnit) (fun again1 ((l2,(l3,(i4,(i5,_)))),_)=>
  brK (decide (i5 < i4))
   (sif (0≤i5) <|
   getK l3 (i5.toNat) fun d6=>
   asSl d6 fun t7 l8=>
   getK l2 ((0:Nat)) fun d9=>
   asSl d9 fun t10 l11=>
   brK ((↑(l8.length):Int) != (↑(l11.length):Int))
    (some (.bool false))
    (letN (IntKind.i64.wrap (i5+1)) fun n12=>
    again1 (((l2,l3,i4,n12,unit),unit))))
   (some (.bool (decide ((↑(l2.length):Int) > 0)))))
  (((a0,a0,(↑(a0.length):Int),(0:Int),unit),unit))
theorem znc (tga0:Tag) (a0:List D):denP Tryz.prog (zay []) zgA [0] ID.wattleref01_alike [.sl tga0 a0]=zfk (D.lentL a0):=by kernel_rfl
theorem zkr (tga0:Tag) (a0:List D):zaO [.sl tga0 a0]=zfk (D.lentL a0):=znc tga0 a0
def zi3:Ann:={ loops:=[(1,dd 3 (.own 1::dd 12 [.val (.cell .lent),.val (.cell (.int .i64)),.val (.cell (.int .i64))])),(3,dd 3 (.own 1::dd 12 (.val (.cell .lent)::.val (.cell (.int .i64))::.val (.cell (.int .i64))::dd 3 [.val (.cell .sl),.val (.cell (.int .i64)),.val (.cell (.int .i64))])))] }
noncomputable def zbV:Zp:=denP Tryz.prog (zay [(ID.wattleref01_alike,(.pure [0] zaO))]) zi3 [1] ID.wattleref01_P
theorem znd:Sound Tryz.prog ID.wattleref01_P (.pure [1] zbV):=zao (zaA [zf1]) zbg ⟨Tryz.f92,by kernel_rfl,by kernel_rfl,by kernel_rfl⟩
noncomputable def zor:Fact Tryz.prog:=⟨ID.wattleref01_P,(.pure [1] zbV),znd⟩
noncomputable def zhw (zaO:Zp) (a0:List D):Option D:=
 zar (zaO [.sl .lent a0]) fun r1=>
 asB r1 fun b2=>
 brK (!b2)
  (some (.sl .own []))
  (getK a0 ((0:Nat)) fun d3=>
  asSl d3 fun t4 l5=>
  sif ((↑(l5.length):Int)=(↑(l5.length):Int)) <|
  sif ((↑(l5.length):Int)*1≤140737488355328) <|
  sif ((↑(l5.length):Int)≤140737488355328) <|
  sif (Int.toNat (↑(l5.length):Int)=List.length (List.replicate (Int.toNat (↑(l5.length):Int)) (D.int .u8 0))) <|
  zb2 (α:=(List D×List D×Int×Int×PUnit)×PUnit) (fun again6 ((l7,(l8,(i9,(i10,_)))),_)=>
   brK (decide (i10 < i9))
    (sif (0≤i10) <|
    getK l8 (i10.toNat) fun d11=>
    asSl d11 fun t12 l13=>
    sif (l7.length=l7.length) <|
    zb2 (α:=(List D×List D×Int×Int×(Tag×List D)×Int×Int×PUnit)×PUnit) (fun again14 ((l15,(l16,(i17,(i18,((t19,l20),(i21,(i22,_))))))),_)=>
     brK (decide (i22 < i21))
      (sif (0≤i22) <|
      getK l20 (i22.toNat) fun d23=>
      asI .u8 d23 fun i24=>
      sif (0≤i22) <|
      sif (i22.toNat < l15.length) <|
      getK l15 (0+i22.toNat) fun d25=>
      asI .u8 d25 fun i26=>
      letN (bits BinOp.xor IntKind.u8 i26 i24) fun n27=>
      sif (0≤i22) <|
      sif (i22.toNat < l15.length) <|
      getK l15 (0+i22.toNat) fun d28=>
      sif (D.isAgg d28=false) <|
      letN (IntKind.i64.wrap (i22+1)) fun n29=>
      sif (l15.length=List.length (List.set l15 (0+i22.toNat) (D.int .u8 n27))) <|
      again14 (((List.set l15 (0+i22.toNat) (.int .u8 n27),l16,i17,i18,(t19,l20),i21,n29,unit),unit)))
      (letN (IntKind.i64.wrap (i18+1)) fun n30=>
      sif (l15.length=l15.length) <|
      again6 (((l15,l16,i17,n30,unit),unit))))
     (((l7,l8,i9,i10,(t12,l13),(↑(l13.length):Int),(0:Int),unit),unit)))
    (sif (l7.length=l7.length) <|
    sif (List.all l7 D.free=true) <|
    some (.sl .own l7)))
   (((List.replicate (Int.toNat (↑(l5.length):Int)) (.int .u8 0),a0,(↑(a0.length):Int),(0:Int),unit),unit)))
theorem zse (zaO:Zp) (tga0:Tag) (a0:List D):denP Tryz.prog (zay [(ID.wattleref01_alike,(.pure [0] zaO))]) zi3 [1] ID.wattleref01_P [.sl tga0 a0]=zhw zaO (D.lentL a0):=by kernel_rfl
theorem zos (tga0:Tag) (a0:List D):zbV [.sl tga0 a0]=zhw zaO (D.lentL a0):=zse zaO tga0 a0
def zhx:Ann:={ loops:=[(0,.dead::.val (.cell (.int .u8))::dd 3 [.val (.cell (.int .i64)),.val (.cell (.int .i64)),.val (.cell (.int .i64))])] }
noncomputable def zaU:Zp:=denP Tryz.prog (zay []) zhx [0] ID.wattleref01_Mul
theorem zla:Sound Tryz.prog ID.wattleref01_Mul (.pure [0] zaU):=zao (zaA []) zbg ⟨Tryz.f128,by kernel_rfl,by kernel_rfl,by kernel_rfl⟩
noncomputable def zgT:Fact Tryz.prog:=⟨ID.wattleref01_Mul,(.pure [0] zaU),zla⟩
noncomputable def zge (a0 a1:Int):Option D:=
 letN (IntKind.wrap IntKind.i64 a0) fun n1=>
 zb2 (α:=(Int×Int×Int×Int×PUnit)×PUnit) (fun again2 ((i3,(i4,(i5,(i6,_)))),_)=>
  brK (decide (i6 < 8))
   (letN (IntKind.wrap IntKind.u64 i6) fun n7=>
   sif (0≤n7) <|
   letN (Int.fdiv i3 ((2:Int) ^ min (n7.toNat) (8:Nat))) fun n8=>
   letN (bits BinOp.and IntKind.u8 n8 (1:Int)) fun n9=>
   brK (n9 == 1)
    (letN (bits BinOp.xor IntKind.i64 i5 i4) fun n10=>
    letN (IntKind.i64.wrap (i4*2)) fun n11=>
    brK (decide (n11 > 255))
     (letN (bits BinOp.xor IntKind.i64 n11 (285:Int)) fun n12=>
     letN (IntKind.i64.wrap (i6+1)) fun n13=>
     again2 (((i3,n12,n10,n13,unit),unit)))
     (letN (IntKind.i64.wrap (i6+1)) fun n14=>
     again2 (((i3,n11,n10,n14,unit),unit))))
    (letN (IntKind.i64.wrap (i4*2)) fun n15=>
    brK (decide (n15 > 255))
     (letN (bits BinOp.xor IntKind.i64 n15 (285:Int)) fun n16=>
     letN (IntKind.i64.wrap (i6+1)) fun n17=>
     again2 (((i3,n16,i5,n17,unit),unit)))
     (letN (IntKind.i64.wrap (i6+1)) fun n18=>
     again2 (((i3,n15,i5,n18,unit),unit)))))
   (letN (IntKind.wrap IntKind.u8 i5) fun n19=>
   some (.int .u8 n19)))
  (((a1,n1,(0:Int),(0:Int),unit),unit))
theorem zpy (a0 a1:Int):denP Tryz.prog (zay []) zhx [0] ID.wattleref01_Mul [.int .u8 a0,.int .u8 a1]=zge a0 a1:=by kernel_rfl
theorem zmi (a0 a1:Int):zaU [.int .u8 a0,.int .u8 a1]=zge a0 a1:=zpy a0 a1
def zhy:Ann:={ loops:=[(1,[.val (.cell (.int .i64)),.dead,.dead,.val (.cell (.int .u8))])] }
noncomputable def zbE:Zp:=denP Tryz.prog (zay [(ID.wattleref01_Mul,(.pure [0] zaU))]) zhy [0] ID.wattleref01_Pow
theorem zlb:Sound Tryz.prog ID.wattleref01_Pow (.pure [0] zbE):=zao (zaA [zgT]) zbg ⟨Tryz.f127,by kernel_rfl,by kernel_rfl,by kernel_rfl⟩
noncomputable def zmj:Fact Tryz.prog:=⟨ID.wattleref01_Pow,(.pure [0] zbE),zlb⟩
noncomputable def zgf (zaU:Zp) (a0:Int):Option D:=
 letN (Int.tmod a0 (255:Int)) fun n1=>
 brK (decide (n1 < 0))
  (letN (IntKind.i64.wrap (n1+255)) fun n2=>
  zb2 (α:=(Int×Int×PUnit)×PUnit) (fun again3 ((i4,(i5,_)),_)=>
   brK (decide (i4 > 0))
    (zar (zaU [.int .u8 i5,.int .u8 2]) fun r6=>
    asI .u8 r6 fun i7=>
    letN (IntKind.i64.wrap (i4 - 1)) fun n8=>
    again3 (((n8,i7,unit),unit)))
    (some (.int .u8 i5)))
   (((n2,(1:Int),unit),unit)))
  (zb2 (α:=(Int×Int×PUnit)×PUnit) (fun again9 ((i10,(i11,_)),_)=>
   brK (decide (i10 > 0))
    (zar (zaU [.int .u8 i11,.int .u8 2]) fun r12=>
    asI .u8 r12 fun i13=>
    letN (IntKind.i64.wrap (i10 - 1)) fun n14=>
    again9 (((n14,i13,unit),unit)))
    (some (.int .u8 i11)))
   (((n1,(1:Int),unit),unit)))
theorem zpz (zaU:Zp) (a0:Int):denP Tryz.prog (zay [(ID.wattleref01_Mul,(.pure [0] zaU))]) zhy [0] ID.wattleref01_Pow [.int .i64 a0]=zgf zaU a0:=by kernel_rfl
theorem zmk (a0:Int):zbE [.int .i64 a0]=zgf zaU a0:=zpz zaU a0
def zi4:Ann:={ loops:=[(1,dd 3 (.own 1::dd 13 [.val (.cell .lent),.val (.cell (.int .i64)),.val (.cell (.int .i64))])),(3,dd 3 (.own 1::dd 2 (.val (.cell (.int .u8))::dd 10 (.val (.cell .lent)::.val (.cell (.int .i64))::.val (.cell (.int .i64))::dd 6 [.val (.cell .sl),.val (.cell (.int .i64)),.val (.cell (.int .i64))]))))] }
noncomputable def zbW:Zp:=denP Tryz.prog (zay [(ID.wattleref01_alike,(.pure [0] zaO)),(ID.wattleref01_Pow,(.pure [0] zbE)),(ID.wattleref01_Mul,(.pure [0] zaU))]) zi4 [1] ID.wattleref01_Q
theorem zne:Sound Tryz.prog ID.wattleref01_Q (.pure [1] zbW):=zao (zaA [zf1,zmj,zgT]) zbg ⟨Tryz.f93,by kernel_rfl,by kernel_rfl,by kernel_rfl⟩
noncomputable def zot:Fact Tryz.prog:=⟨ID.wattleref01_Q,(.pure [1] zbW),zne⟩
noncomputable def zhz (zaO zbE zaU:Zp) (a0:List D):Option D:=
 zar (zaO [.sl .lent a0]) fun r1=>
 asB r1 fun b2=>
 brK (!b2)
  (some (.sl .own []))
  (getK a0 ((0:Nat)) fun d3=>
  asSl d3 fun t4 l5=>
  sif ((↑(l5.length):Int)=(↑(l5.length):Int)) <|
  sif ((↑(l5.length):Int)*1≤140737488355328) <|
  sif ((↑(l5.length):Int)≤140737488355328) <|
  sif (Int.toNat (↑(l5.length):Int)=List.length (List.replicate (Int.toNat (↑(l5.length):Int)) (D.int .u8 0))) <|
  zb2 (α:=(List D×List D×Int×Int×PUnit)×PUnit) (fun again6 ((l7,(l8,(i9,(i10,_)))),_)=>
   brK (decide (i10 < i9))
    (sif (0≤i10) <|
    getK l8 (i10.toNat) fun d11=>
    asSl d11 fun t12 l13=>
    zar (zbE [.int .i64 i10]) fun r14=>
    asI .u8 r14 fun i15=>
    sif (l7.length=l7.length) <|
    zb2 (α:=(List D×Int×List D×Int×Int×(Tag×List D)×Int×Int×PUnit)×PUnit) (fun again16 ((l17,(i18,(l19,(i20,(i21,((t22,l23),(i24,(i25,_)))))))),_)=>
     brK (decide (i25 < i24))
      (sif (0≤i25) <|
      getK l23 (i25.toNat) fun d26=>
      asI .u8 d26 fun i27=>
      sif (0≤i25) <|
      sif (i25.toNat < l17.length) <|
      getK l17 (0+i25.toNat) fun d28=>
      asI .u8 d28 fun i29=>
      zar (zaU [.int .u8 i27,.int .u8 i18]) fun r30=>
      asI .u8 r30 fun i31=>
      letN (bits BinOp.xor IntKind.u8 i29 i31) fun n32=>
      sif (0≤i25) <|
      sif (i25.toNat < l17.length) <|
      getK l17 (0+i25.toNat) fun d33=>
      sif (D.isAgg d33=false) <|
      letN (IntKind.i64.wrap (i25+1)) fun n34=>
      sif (l17.length=List.length (List.set l17 (0+i25.toNat) (D.int .u8 n32))) <|
      again16 (((List.set l17 (0+i25.toNat) (.int .u8 n32),i18,l19,i20,i21,(t22,l23),i24,n34,unit),unit)))
      (letN (IntKind.i64.wrap (i21+1)) fun n35=>
      sif (l17.length=l17.length) <|
      again6 (((l17,l19,i20,n35,unit),unit))))
     (((l7,i15,l8,i9,i10,(t12,l13),(↑(l13.length):Int),(0:Int),unit),unit)))
    (sif (l7.length=l7.length) <|
    sif (List.all l7 D.free=true) <|
    some (.sl .own l7)))
   (((List.replicate (Int.toNat (↑(l5.length):Int)) (.int .u8 0),a0,(↑(a0.length):Int),(0:Int),unit),unit)))
theorem zsf (zaO zbE zaU:Zp) (tga0:Tag) (a0:List D):denP Tryz.prog (zay [(ID.wattleref01_alike,(.pure [0] zaO)),(ID.wattleref01_Pow,(.pure [0] zbE)),(ID.wattleref01_Mul,(.pure [0] zaU))]) zi4 [1] ID.wattleref01_Q [.sl tga0 a0]=zhz zaO zbE zaU (D.lentL a0):=by kernel_rfl
theorem zou (tga0:Tag) (a0:List D):zbW [.sl tga0 a0]=zhz zaO zbE zaU (D.lentL a0):=zsf zaO zbE zaU tga0 a0
def zgU:Ann:={ loops:=[(1,.dead::.val (.cell (.int .i64))::.val (.cell .lent)::.box true [(.int .i64),(.int .i64),(.int .i64)]::dd 4 (.own 1::dd 18 [.val (.cell .lent),.val (.cell (.int .i64)),.val (.cell (.int .i64))]))] }
noncomputable def zbu:Zp:=denP Tryz.prog (zay [(ID.wattleref01_fine,(.pure [0] zax)),(ID.wattleref01_Width,(.pure [0] zag)),(ID.wattleref01_Disk,(.pure [0] zbh)),(ID.wattleref01_Parity,(.pure [0,0] zaJ)),(ID.wattleref01_P,(.pure [1] zbV)),(ID.wattleref01_Q,(.pure [1] zbW))]) zgU [1,0] ID.wattleref01_Fill
theorem zks:Sound Tryz.prog ID.wattleref01_Fill (.pure [1,0] zbu):=zao (zaA [zev,zdp,zk8,zfI,zor,zot]) zbg ⟨Tryz.f43,by kernel_rfl,by kernel_rfl,by kernel_rfl⟩
noncomputable def zlc:Fact Tryz.prog:=⟨ID.wattleref01_Fill,(.pure [1,0] zbu),zks⟩
noncomputable def zfK (zax zag zbh zaJ zbV zbW:Zp) (a0_0 a0_1 a0_2 a1:Int) (a2:List D):Option D:=
 zar (zax [.agg [.int .i64 a0_0,.int .i64 a0_1,.int .i64 a0_2],.int .i64 a1]) fun r1=>
 asB r1 fun b2=>
 brK (!b2)
  (some (.tup [.sl .own [],.bool false]))
  (zar (zag [.agg [.int .i64 a0_0,.int .i64 a0_1,.int .i64 a0_2]]) fun r3=>
  asI .i64 r3 fun i4=>
  brK ((↑(a2.length):Int) != i4)
   (some (.tup [.sl .own [],.bool false]))
   (sif (0≤a0_1) <|
   sif (a0_1=a0_1) <|
   sif (a0_1*24≤140737488355328) <|
   sif (a0_1≤140737488355328) <|
   sif (a0_1.toNat=List.length (List.replicate (a0_1.toNat) (D.sl .nil []))) <|
   zb2 (α:=(Int×List D×(Int×Int×Int×PUnit)×List D×List D×Int×Int×PUnit)×PUnit) (fun again5 ((i6,(l7,((i8,(i9,(i10,_))),(l11,(l12,(i13,(i14,_))))))),_)=>
    brK (decide (i14 < i13))
     (sif (0≤i14) <|
     getK l12 (i14.toNat) fun d15=>
     asSl d15 fun t16 l17=>
     brK ((↑(l17.length):Int) != 32)
      (some (.tup [.sl .own [],.bool false]))
      (zar (zbh [.agg [.int .i64 i8,.int .i64 i9,.int .i64 i10],.int .i64 i6,.int .i64 i14]) fun r18=>
      asI .i64 r18 fun i19=>
      sif (l17.length≤4294967296) <|
      sif (zec (1:Nat) l17=true) <|
      sif (0≤i19) <|
      sif (i19.toNat < l11.length) <|
      sif (0+l17.length≤l17.length) <|
      getK l11 (0+i19.toNat) fun d20=>
      sif (0+l17.length≤l17.length) <|
      sif (D.isAgg d20=false) <|
      letN (IntKind.i64.wrap (i14+1)) fun n21=>
      sif (l11.length=List.length (List.set l11 (0+i19.toNat) (D.sl .fresh (cut 0 l17.length l17)))) <|
      again5 (((i6,l7,(i8,i9,i10,unit),List.set l11 (0+i19.toNat) (.sl .fresh (cut 0 l17.length l17)),l12,i13,n21,unit),unit))))
     (zar (zaJ [.agg [.int .i64 i8,.int .i64 i9,.int .i64 i10],.int .i64 i6]) fun r22=>
     ze3 r22 fun ts23=>
     zaz ([Lf.any,Lf.any]) ts23 fun c24=>
     asI .i64 c24.1 fun i25=>
     asI .i64 c24.2.1 fun i26=>
     zar (zbV [.sl .lent l7]) fun r27=>
     zbn r27 fun l28=>
     sif (0≤i25) <|
     sif (i25.toNat < l11.length) <|
     sif (0+l28.length≤l28.length) <|
     getK l11 (0+i25.toNat) fun d29=>
     sif (0+l28.length≤l28.length) <|
     sif (D.isAgg d29=false) <|
     brK (decide (i26≥0))
      (zar (zbW [.sl .lent l7]) fun r30=>
      zbn r30 fun l31=>
      sif (0≤i26) <|
      sif (i26.toNat < l11.length) <|
      sif (0+l31.length≤l31.length) <|
      getK (List.set l11 (0+i25.toNat) (.sl .fresh (cut 0 l28.length l28))) (0+i26.toNat) fun d32=>
      sif (0+l31.length≤l31.length) <|
      sif (D.isAgg d32=false) <|
      sif (l11.length=List.length (List.set (List.set l11 (0+i25.toNat) (D.sl .fresh (cut 0 l28.length l28))) (0+i26.toNat) (D.sl .fresh (cut 0 l31.length l31)))) <|
      sif (List.all (List.set (List.set l11 (0+i25.toNat) (D.sl .fresh (cut 0 l28.length l28))) (0+i26.toNat) (D.sl .fresh (cut 0 l31.length l31))) D.free=true) <|
      some (.tup [.sl .own (List.set (List.set l11 (0+i25.toNat) (.sl .fresh (cut 0 l28.length l28))) (0+i26.toNat) (.sl .fresh (cut 0 l31.length l31))),.bool true]))
      (sif (l11.length=List.length (List.set l11 (0+i25.toNat) (.sl .fresh (cut 0 l28.length l28)))) <|
      sif (List.all (List.set l11 (0+i25.toNat) (D.sl .fresh (cut 0 l28.length l28))) D.free=true) <|
      some (.tup [.sl .own (List.set l11 (0+i25.toNat) (.sl .fresh (cut 0 l28.length l28))),.bool true]))))
    (((a1,a2,(a0_0,a0_1,a0_2,unit),List.replicate (a0_1.toNat) (.sl .nil []),a2,(↑(a2.length):Int),(0:Int),unit),unit))))
theorem zov (zax zag zbh zaJ zbV zbW:Zp) (tga2:Tag) (a0_0 a0_1 a0_2 a1:Int) (a2:List D):denP Tryz.prog (zay [(ID.wattleref01_fine,(.pure [0] zax)),(ID.wattleref01_Width,(.pure [0] zag)),(ID.wattleref01_Disk,(.pure [0] zbh)),(ID.wattleref01_Parity,(.pure [0,0] zaJ)),(ID.wattleref01_P,(.pure [1] zbV)),(ID.wattleref01_Q,(.pure [1] zbW))]) zgU [1,0] ID.wattleref01_Fill [.agg [.int .i64 a0_0,.int .i64 a0_1,.int .i64 a0_2],.int .i64 a1,.sl tga2 a2]=zfK zax zag zbh zaJ zbV zbW a0_0 a0_1 a0_2 a1 (D.lentL a2):=by kernel_rfl
theorem zld (tga2:Tag) (a0_0 a0_1 a0_2 a1:Int) (a2:List D):zbu [.agg [.int .i64 a0_0,.int .i64 a0_1,.int .i64 a0_2],.int .i64 a1,.sl tga2 a2]=zfK zax zag zbh zaJ zbV zbW a0_0 a0_1 a0_2 a1 (D.lentL a2):=zov zax zag zbh zaJ zbV zbW tga2 a0_0 a0_1 a0_2 a1 a2
def zic:Ann:={ loops:=[],ks:=[(2496,false)] }
noncomputable def zaH:Zs:=denS Tryz.prog (zay []) zic [0] ID.bench_Bench_is
theorem zml:Sound Tryz.prog ID.bench_Bench_is (.st [] [0] [(2496,false)] zaH):=za9 (zaA []) zbg ⟨Tryz.f74,by kernel_rfl,by kernel_rfl,by kernel_rfl⟩
noncomputable def zfl:Fact Tryz.prog:=⟨ID.bench_Bench_is,(.st [] [0] [(2496,false)] zaH),zml⟩
noncomputable def zgI (a0:Nat) (a1:Int) (T0:Tb):Option Ans:=
 brK (decide (a1≥0))
  (getK T0 a0 fun d1=>
  getK d1 ((3:Nat)) fun d2=>
  zbn d2 fun l3=>
  getK T0 a0 fun d4=>
  getK d4 ((3:Nat)) fun d5=>
  zbn d5 fun l6=>
  sif (0+l3.length≤l6.length) <|
  some (Ans.mk (.bool (decide (a1 < (↑(l3.length):Int)))) [] []))
  (some (Ans.mk (.bool false) [] []))
theorem zqF (a0:Nat) (a1:Int) (T0:Tb):denS Tryz.prog (zay []) zic [0] ID.bench_Bench_is [.h 2496 a0 0,.int .i64 a1] [T0]=zgI a0 a1 T0:=by kernel_rfl
theorem znf (a0:Nat) (a1:Int) (T0:Tb):zaH [.h 2496 a0 0,.int .i64 a1] [T0]=zgI a0 a1 T0:=zqF a0 a1 T0
def zi5:Ann:={ loops:=[],ks:=[(8225,false)] }
noncomputable def za4:Zs:=denS Tryz.prog (zay []) zi5 [0] ID.disk_Disk_may
theorem zng:Sound Tryz.prog ID.disk_Disk_may (.st [] [0] [(8225,false)] za4):=za9 (zaA []) zbg ⟨Tryz.f98,by kernel_rfl,by kernel_rfl,by kernel_rfl⟩
noncomputable def zid:Fact Tryz.prog:=⟨ID.disk_Disk_may,(.st [] [0] [(8225,false)] za4),zng⟩
noncomputable def zhA (a0:Nat) (a1:Int) (T0:Tb):Option Ans:=
 getK T0 a0 fun d1=>
 getK d1 ((1665:Nat)) fun d2=>
 asB d2 fun b3=>
 brK b3
  (some (Ans.mk (.int .i64 5) [] []))
  (brK (decide (a1 < 0))
   (some (Ans.mk (.int .i64 4) [] []))
   (brK (decide (a1≥52))
    (some (Ans.mk (.int .i64 4) [] []))
    (some (Ans.mk (.int .i64 0) [] []))))
theorem zsg (a0:Nat) (a1:Int) (T0:Tb):denS Tryz.prog (zay []) zi5 [0] ID.disk_Disk_may [.h 8225 a0 0,.int .i64 a1] [T0]=zhA a0 a1 T0:=by kernel_rfl
theorem zow (a0:Nat) (a1:Int) (T0:Tb):za4 [.h 8225 a0 0,.int .i64 a1] [T0]=zhA a0 a1 T0:=zsg a0 a1 T0
def zi6:Ann:={ loops:=[],ks:=[(8225,false)] }
noncomputable def za5:Zs:=denS Tryz.prog (zay [(ID.disk_Disk_may,(.st [] [0] [(8225,false)] za4))]) zi6 [0,0] ID.disk_Disk_put
theorem znh:Sound Tryz.prog ID.disk_Disk_put (.st [] [0,0] [(8225,false)] za5):=za9 (zaA [zid]) zbg ⟨Tryz.f129,by kernel_rfl,by kernel_rfl,by kernel_rfl⟩
noncomputable def zie:Fact Tryz.prog:=⟨ID.disk_Disk_put,(.st [] [0,0] [(8225,false)] za5),znh⟩
noncomputable def zhB (za4:Zs) (a0:Nat) (a1:Int) (a2:List D) (T0:Tb):Option Ans:=
 zar (za4 [.h 8225 a0 0,.int .i64 a1] [T0]) fun r1=>
 nilK r1.outs <|
 nilK r1.tbs <|
 asI .i64 r1.r fun i2=>
 brK (i2 != 0)
  (some (Ans.mk (.tup [.agg [.int .i64 0,.int .u8 0,.int .u8 0,.int .u8 0,.int .u8 0,.int .u8 0,.int .u8 0,.int .u8 0,.int .u8 0,.int .u8 0,.int .u8 0,.int .u8 0,.int .u8 0,.int .u8 0,.int .u8 0,.int .u8 0,.int .u8 0,.int .u8 0,.int .u8 0,.int .u8 0,.int .u8 0,.int .u8 0,.int .u8 0,.int .u8 0,.int .u8 0,.int .u8 0,.int .u8 0,.int .u8 0,.int .u8 0,.int .u8 0,.int .u8 0,.int .u8 0,.int .u8 0],.int .i64 i2]) [] []))
  (brK ((↑(a2.length):Int) != 32)
   (some (Ans.mk (.tup [.agg [.int .i64 0,.int .u8 0,.int .u8 0,.int .u8 0,.int .u8 0,.int .u8 0,.int .u8 0,.int .u8 0,.int .u8 0,.int .u8 0,.int .u8 0,.int .u8 0,.int .u8 0,.int .u8 0,.int .u8 0,.int .u8 0,.int .u8 0,.int .u8 0,.int .u8 0,.int .u8 0,.int .u8 0,.int .u8 0,.int .u8 0,.int .u8 0,.int .u8 0,.int .u8 0,.int .u8 0,.int .u8 0,.int .u8 0,.int .u8 0,.int .u8 0,.int .u8 0,.int .u8 0],.int .i64 1]) [] []))
   (sif (cells a2=true) <|
   sif (a2.length=(32:Nat)) <|
   sif (33≤List.length ([D.int .i64 a1]++(a2++[]))) <|
   zaz ([Lf.int .i64,Lf.arr (32)]) (List.take (33:Nat) (List.drop (0:Nat) ([.int .i64 a1]++(a2++[])))) fun c3=>
   sif (List.length ([D.int .i64 c3.1]++(c3.2.1++[]))=(33:Nat)) <|
   sif (33≤List.length ([D.int .i64 c3.1]++(c3.2.1++[]))) <|
   zaz ([Lf.int .i64,Lf.arr (32)]) (List.take (33:Nat) (List.drop (0:Nat) ([.int .i64 c3.1]++(c3.2.1++[])))) fun c4=>
   sif (D.free (D.agg ([D.int .i64 c4.1]++(c4.2.1++[])))=true) <|
   some (Ans.mk (.tup [.agg ([.int .i64 c4.1]++(c4.2.1++[])),.int .i64 0]) [] [])))
theorem zsh (za4:Zs) (tga2:Tag) (a0:Nat) (a1:Int) (a2:List D) (T0:Tb):denS Tryz.prog (zay [(ID.disk_Disk_may,(.st [] [0] [(8225,false)] za4))]) zi6 [0,0] ID.disk_Disk_put [.h 8225 a0 0,.int .i64 a1,.sl tga2 a2] [T0]=zhB za4 a0 a1 (D.lentL a2) T0:=by kernel_rfl
theorem zox (tga2:Tag) (a0:Nat) (a1:Int) (a2:List D) (T0:Tb):za5 [.h 8225 a0 0,.int .i64 a1,.sl tga2 a2] [T0]=zhB za4 a0 a1 (D.lentL a2) T0:=zsh za4 tga2 a0 a1 a2 T0
def zcU:Ann:={ loops:=[] }
noncomputable def zad:Zp:=denE Tryz.prog (zay []) zcU [33] ID.slices_Clone_disk_write_disk_write
theorem zek:Sound Tryz.prog ID.slices_Clone_disk_write_disk_write (.pure [33] zad):=zun (zaA []) zbg ⟨Tryz.f97,by kernel_rfl,by kernel_rfl,by kernel_rfl⟩
noncomputable def zcQ:Fact Tryz.prog:=⟨ID.slices_Clone_disk_write_disk_write,(.pure [33] zad),zek⟩
noncomputable def zck (a0:D) (b0:List D):Option D:=
 sif (List.length (a0::b0)≤4294967296) <|
 sif (zec (33:Nat) (a0::b0)=true) <|
 sif (List.length (a0::b0)=List.length (a0::b0)) <|
 sif (List.all (a0::b0) D.free=true) <|
 some (.sl .own (a0::b0))
theorem ze6 (tga0:Tag) (a0:D) (b0:List D):denE Tryz.prog (zay []) zcU [33] ID.slices_Clone_disk_write_disk_write [.sl tga0 (a0::b0)]=zck (D.lent a0) (D.lentL b0):=by kernel_rfl
theorem zew (tga0:Tag) (a0:D) (b0:List D):zad [.sl tga0 (a0::b0)]=zck (D.lent a0) (D.lentL b0):=ze6 tga0 a0 b0
theorem zel (tg:Tag):zad [.sl tg []]=some (.sl .own []):=(zqn (some (.sl .own [])))
def zf2:Ann:={ loops:=[],hints:=[(1,.at1 (.int .i64))] }
noncomputable def zaN:Zp:=denP Tryz.prog (zay []) zf2 [0] ID.disk_Disk_Damage_1
theorem zi7:Sound Tryz.prog ID.disk_Disk_Damage_1 (.pure [0] zaN):=zao (zaA []) zbg ⟨Tryz.f131,by kernel_rfl,by kernel_rfl,by kernel_rfl⟩
noncomputable def zfL:Fact Tryz.prog:=⟨ID.disk_Disk_Damage_1,(.pure [0] zaN),zi7⟩
noncomputable def zeU (a0:List D) (c0:Int):Option D:=
 zaz ([Lf.int .i64,Lf.arr (32)]) a0 fun c1=>
 some (.bool (c1.1 == c0))
theorem zmm (a0:List D) (c0:Int):denP Tryz.prog (zay []) zf2 [0] ID.disk_Disk_Damage_1 [.agg a0,.at_ (.int .i64 c0)]=zeU (List.map D.lnt1 a0) c0:=by kernel_rfl
theorem zjN (a0:List D) (c0:Int):zaN [.agg a0,.at_ (.int .i64 c0)]=zeU (List.map D.lnt1 a0) c0:=zmm a0 c0
def zcD:Ann:={ loops:=[(0,.val (.cell .lent)::.val (.fn1 (131:FuncId) (.int .i64))::dd 5 [.val (.cell (.int .i64)),.val (.cell (.int .i64))])] }
noncomputable def zat:Zp:=denP Tryz.prog (zay [(ID.disk_Disk_Damage_1,(.pure [0] zaN))]) zcD [0] ID.slices_IndexFunc_disk_write_disk_write
theorem zdX:Sound Tryz.prog ID.slices_IndexFunc_disk_write_disk_write (.pure [0] zat):=zao (zaA [zfL]) zbg ⟨Tryz.f152,by kernel_rfl,by kernel_rfl,by kernel_rfl⟩
noncomputable def zd2:Fact Tryz.prog:=⟨ID.slices_IndexFunc_disk_write_disk_write,(.pure [0] zat),zdX⟩
noncomputable def zbK (zaN:Zp) (a0:List D) (c0:Int):Option D:=
 zb2 (α:=(List D×Int×Int×Int×PUnit)×PUnit) (fun again1 ((l2,(i3,(i4,(i5,_)))),_)=>
  brK (decide (i5 < i4))
   (sif (0≤i5) <|
   getK l2 (i5.toNat) fun d6=>
   asAgg d6 fun cs7=>
   zaz ([Lf.int .i64,Lf.arr (32)]) cs7 fun c8=>
   sif (D.width (D.agg ([D.int .i64 c8.1]++(c8.2.1++[])))=(33:Nat)) <|
   zaz ([Lf.int .i64,Lf.arr (32)]) ([.int .i64 c8.1]++(c8.2.1++[])) fun c9=>
   sif (D.width (D.agg ([D.int .i64 c9.1]++(c9.2.1++[])))=(33:Nat)) <|
   zar (zaN [.agg ([.int .i64 c9.1]++(c9.2.1++[])),D.at_ (.int .i64 i3)]) fun r10=>
   asB r10 fun b11=>
   brK b11
    (some (.int .i64 i5))
    (letN (IntKind.i64.wrap (i5+1)) fun n12=>
    again1 (((l2,i3,i4,n12,unit),unit))))
   (some (.int .i64 (-1))))
  (((a0,c0,(↑(a0.length):Int),(0:Int),unit),unit))
theorem zdF (zaN:Zp) (tga0:Tag) (a0:List D) (c0:Int):denP Tryz.prog (zay [(ID.disk_Disk_Damage_1,(.pure [0] zaN))]) zcD [0] ID.slices_IndexFunc_disk_write_disk_write [.sl tga0 a0,.fn 131 [] [.at_ (.int .i64 c0)]]=zbK zaN (D.lentL a0) c0:=by kernel_rfl
theorem zdk (tga0:Tag) (a0:List D) (c0:Int):zat [.sl tga0 a0,.fn 131 [] [.at_ (.int .i64 c0)]]=zbK zaN (D.lentL a0) c0:=zdF zaN tga0 a0 c0
def zcz:Ann:={ loops:=[(1,.own 33::.val (.fn1 (131:FuncId) (.int .i64))::dd 3 [.val (.cell (.int .i64)),.val (.cell (.int .i64))])],pms:=[(.own,33)] }
noncomputable def zaq:Zs:=denS Tryz.prog (zay [(ID.slices_IndexFunc_disk_write_disk_write,(.pure [0] zat)),(ID.disk_Disk_Damage_1,(.pure [0] zaN))]) zcz [33] ID.slices_DeleteFunc_disk_write_disk_write
theorem zdT:Sound Tryz.prog ID.slices_DeleteFunc_disk_write_disk_write (.st [(.own,33)] [33] [] zaq):=za9 (zaA [zd2,zfL]) zbg ⟨Tryz.f130,by kernel_rfl,by kernel_rfl,by kernel_rfl⟩
noncomputable def zdY:Fact Tryz.prog:=⟨ID.slices_DeleteFunc_disk_write_disk_write,(.st [(.own,33)] [33] [] zaq),zdT⟩
noncomputable def zbB (zat zaN:Zp) (a0:List D) (c0:Int):Option Ans:=
 sif (0+a0.length≤a0.length) <|
 zar (zat [.sl .lent (cut 0 a0.length a0),.fn (131:FuncId) [] [D.at_ (.int .i64 c0)]]) fun r1=>
 asI .i64 r1 fun i2=>
 brK (i2 == (-1:Int))
  (sif (a0.length=a0.length) <|
  sif (List.all a0 D.free=true) <|
  some (Ans.mk (.sl .own a0) [] []))
  (letN (IntKind.i64.wrap (i2+1)) fun n3=>
  none)
theorem zdw (zat zaN:Zp) (a0:List D) (c0:Int):denS Tryz.prog (zay [(ID.slices_IndexFunc_disk_write_disk_write,(.pure [0] zat)),(ID.disk_Disk_Damage_1,(.pure [0] zaN))]) zcz [33] ID.slices_DeleteFunc_disk_write_disk_write [.sl .own a0,.fn 131 [] [.at_ (.int .i64 c0)]] []=zbB zat zaN a0 c0:=by kernel_rfl
theorem zdf (a0:List D) (c0:Int):zaq [.sl .own a0,.fn 131 [] [.at_ (.int .i64 c0)]] []=zbB zat zaN a0 c0:=zdw zat zaN a0 c0
def zgV:Ann:={ loops:=[],ks:=[(8225,true)] }
noncomputable def zbv:Zs:=denS Tryz.prog (zay [(ID.disk_Disk_put,(.st [] [0,0] [(8225,false)] za5)),(ID.slices_Clone_disk_write_disk_write,(.pure [33] zad)),(ID.slices_DeleteFunc_disk_write_disk_write,(.st [(.own,33)] [33] [] zaq))]) zgV [0] ID.disk_Disk_Damage
theorem zkt:Sound Tryz.prog ID.disk_Disk_Damage (.st [] [0] [(8225,true)] zbv):=za9 (zaA [zie,zcQ,zdY]) zbg ⟨Tryz.f96,by kernel_rfl,by kernel_rfl,by kernel_rfl⟩
noncomputable def zle:Fact Tryz.prog:=⟨ID.disk_Disk_Damage,(.st [] [0] [(8225,true)] zbv),zkt⟩
noncomputable def zfM (za5:Zs) (zad:Zp) (zaq:Zs) (a0:Nat) (a1:Int) (a2:List D) (T0:Tb):Option Ans:=
 zar (za5 [.h 8225 a0 0,.int .i64 a1,.sl .lent a2] [T0]) fun r1=>
 nilK r1.outs <|
 nilK r1.tbs <|
 ze3 r1.r fun ts2=>
 zaz ([Lf.any,Lf.any]) ts2 fun c3=>
 asAgg c3.1 fun cs4=>
 zaz ([Lf.int .i64,Lf.arr (32)]) cs4 fun c5=>
 asI .i64 c3.2.1 fun i6=>
 sif (List.length ([D.int .i64 c5.1]++(c5.2.1++[]))=(33:Nat)) <|
 brK (i6 != 0)
  (some (Ans.mk (.int .i64 i6) [] [T0]))
  (sif (33≤List.length ([.int .i64 c5.1]++(c5.2.1++[]))) <|
  sif (List.length (List.take (32:Nat) (List.drop (1:Nat) ([D.int .i64 c5.1]++(c5.2.1++[]))))=(32:Nat)) <|
  sif (0≤a1) <|
  sif (a1.toNat < 52) <|
  getK T0 a0 fun d7=>
  sif (0+a1.toNat*32+32≤d7.length) <|
  sif (List.length (List.take (32:Nat) (List.drop (1:Nat) ([D.int .i64 c5.1]++(c5.2.1++[]))))=(32:Nat)) <|
  sif (zim (List.take (32:Nat) (List.drop (1:Nat) ([D.int .i64 c5.1]++(c5.2.1++[]))))=true) <|
  sif (zim (List.take (32:Nat) (List.drop (0+a1.toNat*32) d7))=true) <|
  letT (za7 T0 a0 (0+a1.toNat*32) (List.take (32:Nat) (List.drop (1:Nat) ([.int .i64 c5.1]++(c5.2.1++[]))))) fun U8=>
  getK U8 a0 fun d9=>
  getK d9 ((1664:Nat)) fun d10=>
  zbn d10 fun l11=>
  getK U8 a0 fun d12=>
  getK d12 ((1664:Nat)) fun d13=>
  zbn d13 fun l14=>
  sif (0+l11.length≤l14.length) <|
  zar (zad [.sl .lent (cut 0 l11.length l14)]) fun r15=>
  zbn r15 fun l16=>
  sif (l16.length=l16.length) <|
  sif (zdh l16=true) <|
  zar (zaq [.sl .own l16,.fn (131:Nat) [] [D.at_ (.int .i64 a1)]] []) fun r17=>
  nilK r17.outs <|
  nilK r17.tbs <|
  zbn r17.r fun l18=>
  sif (0+l18.length≤l18.length) <|
  getK U8 a0 fun d19=>
  sif (1665≤d19.length) <|
  sif (l18.length=l18.length) <|
  sif (zdh l18=true) <|
  sif (zgu (33:Nat) l18=true) <|
  letT (za7 U8 a0 (1664:Nat) [.sl .own l18]) fun U20=>
  some (Ans.mk (.int .i64 0) [] [U20]))
theorem zoy (za5:Zs) (zad:Zp) (zaq:Zs) (tga2:Tag) (a0:Nat) (a1:Int) (a2:List D) (T0:Tb):denS Tryz.prog (zay [(ID.disk_Disk_put,(.st [] [0,0] [(8225,false)] za5)),(ID.slices_Clone_disk_write_disk_write,(.pure [33] zad)),(ID.slices_DeleteFunc_disk_write_disk_write,(.st [(.own,33)] [33] [] zaq))]) zgV [0] ID.disk_Disk_Damage [.h 8225 a0 0,.int .i64 a1,.sl tga2 a2] [T0]=zfM za5 zad zaq a0 a1 (D.lentL a2) T0:=by kernel_rfl
theorem zlf (tga2:Tag) (a0:Nat) (a1:Int) (a2:List D) (T0:Tb):zbv [.h 8225 a0 0,.int .i64 a1,.sl tga2 a2] [T0]=zfM za5 zad zaq a0 a1 (D.lentL a2) T0:=zoy za5 zad zaq tga2 a0 a1 a2 T0
def zf3:Ann:={ loops:=[],ks:=[(2496,false),(8225,true)] }
noncomputable def zbf:Zs:=denS Tryz.prog (zay [(ID.bench_Bench_is,(.st [] [0] [(2496,false)] zaH)),(ID.disk_Disk_Damage,(.st [] [0] [(8225,true)] zbv))]) zf3 [0] ID.bench_Bench_Damage
theorem zi8:Sound Tryz.prog ID.bench_Bench_Damage (.st [] [0] [(2496,false),(8225,true)] zbf):=za9 (zaA [zfl,zle]) zbg ⟨Tryz.f50,by kernel_rfl,by kernel_rfl,by kernel_rfl⟩
noncomputable def zjO:Fact Tryz.prog:=⟨ID.bench_Bench_Damage,(.st [] [0] [(2496,false),(8225,true)] zbf),zi8⟩
noncomputable def zeV (zaH zbv:Zs) (a0:Nat) (a1 a2:Int) (a3:List D) (T0 T1:Tb):Option Ans:=
 zar (zaH [.h 2496 a0 0,.int .i64 a1] [T0]) fun r1=>
 nilK r1.outs <|
 nilK r1.tbs <|
 asB r1.r fun b2=>
 brK (!b2)
  (some (Ans.mk (.int .i64 1) [] [T1]))
  (getK T0 a0 fun d3=>
  getK d3 ((3:Nat)) fun d4=>
  zbn d4 fun l5=>
  getK T0 a0 fun d6=>
  getK d6 ((3:Nat)) fun d7=>
  zbn d7 fun l8=>
  sif (0≤a1) <|
  sif (a1.toNat < l5.length) <|
  getK T0 a0 fun d9=>
  getK d9 ((3:Nat)) fun d10=>
  zbn d10 fun l11=>
  getK l11 (0+a1.toNat) fun d12=>
  sif (D.isAgg d12=false) <|
  sif (D.width d12=(1:Nat)) <|
  sif (D.cell d12=true) <|
  zar (zbv [d12,.int .i64 a2,.sl .lent a3] [T1]) fun r13=>
  nilK r13.outs <|
  zc1 r13.tbs fun c14 q15=>
  nilK q15 <|
  asI .i64 r13.r fun i16=>
  some (Ans.mk (.int .i64 i16) [] [c14]))
theorem zmn (zaH zbv:Zs) (tga3:Tag) (a0:Nat) (a1 a2:Int) (a3:List D) (T0 T1:Tb):denS Tryz.prog (zay [(ID.bench_Bench_is,(.st [] [0] [(2496,false)] zaH)),(ID.disk_Disk_Damage,(.st [] [0] [(8225,true)] zbv))]) zf3 [0] ID.bench_Bench_Damage [.h 2496 a0 0,.int .i64 a1,.int .i64 a2,.sl tga3 a3] [T0,T1]=zeV zaH zbv a0 a1 a2 (D.lentL a3) T0 T1:=by kernel_rfl
theorem zjP (tga3:Tag) (a0:Nat) (a1 a2:Int) (a3:List D) (T0 T1:Tb):zbf [.h 2496 a0 0,.int .i64 a1,.int .i64 a2,.sl tga3 a3] [T0,T1]=zeV zaH zbv a0 a1 a2 (D.lentL a3) T0 T1:=zmn zaH zbv tga3 a0 a1 a2 a3 T0 T1
def zf4:Ann:={ loops:=[(1,.dead::.val (.cell (.int .i64))::.val (.cell .lent)::.box true [(.int .i64),(.int .i64),(.int .i64)]::dd 3 [.ptr 2496,.dead,.val (.cell (.int .i64))]),(3,.dead::.val (.cell (.int .i64))::.val (.cell .lent)::.box true [(.int .i64),(.int .i64),(.int .i64)]::dd 3 [.ptr 2496,.dead,.val (.cell (.int .i64)),.own 1,.val (.cell .bool),.val (.cell (.int .i64))])],ks:=[(2496,true),(8225,true)] }
noncomputable def zba:Zs:=denS Tryz.prog (zay [(ID.bench_New,(.st [] [0,0] [(2496,true),(8225,true)] zbx)),(ID.wattleref01_Width,(.pure [0] zag)),(ID.wattleplay_Sectors,(.pure [1] zbe)),(ID.wattleref01_Fill,(.pure [1,0] zbu)),(ID.bench_Bench_Damage,(.st [] [0] [(2496,false),(8225,true)] zbf))]) zf4 [0] ID.wattlelaw14_Filled
theorem zi9:Sound Tryz.prog ID.wattlelaw14_Filled (.st [] [0] [(2496,true),(8225,true)] zba):=za9 (zaA [zmJ,zdp,zjJ,zlc,zjO]) zbg ⟨Tryz.f10,by kernel_rfl,by kernel_rfl,by kernel_rfl⟩
noncomputable def zjQ:Fact Tryz.prog:=⟨ID.wattlelaw14_Filled,(.st [] [0] [(2496,true),(8225,true)] zba),zi9⟩
noncomputable def zeW (zbx:Zs) (zag zbe zbu:Zp) (zbf:Zs) (a0_0 a0_1 a0_2 a1:Int) (a2:List D) (T0 T1:Tb):Option Ans:=
 zar (zbx [.int .i64 a1] [T0,T1]) fun r1=>
 nilK r1.outs <|
 zc1 r1.tbs fun c2 q3=>
 zc1 q3 fun c4 q5=>
 nilK q5 <|
 ze3 r1.r fun ts6=>
 zaz ([Lf.any,Lf.any]) ts6 fun c7=>
 sif (zkO c7.1=true) <|
 asI .i64 c7.2.1 fun i8=>
 brK (i8 != 0)
  (some (Ans.mk D.nilp [] [c2,c4]))
  (zpe c7.1 fun b9=>
  brK b9
   (some (Ans.mk D.nilp [] [c2,c4]))
   (zb2 (α:=(Int×List D×(Int×Int×Int×PUnit)×D×Int×PUnit)×List (List D)×List (List D)×PUnit) (fun again10 ((i11,(l12,((i13,(i14,(i15,_))),(x16,(i17,_))))),(U18,(U19,_)))=>
    brK (decide (i17 < 16))
     (letN (min i17 (↑(l12.length):Int)) fun n20=>
     sif (0≤n20) <|
     sif (n20≤(↑(l12.length):Int)) <|
     sif ((↑(l12.length):Int)≤(↑(l12.length):Int)) <|
     sif ((↑(l12.length):Int)=(↑(l12.length):Int)) <|
     sif (zqE (1:Nat) l12=true) <|
     zar (zag [.agg [.int .i64 i13,.int .i64 i14,.int .i64 i15]]) fun r21=>
     asI .i64 r21 fun i22=>
     zar (zbe [.sl (zdP Tag.lent false (decide ((↑(l12.length):Int)=(↑(l12.length):Int)))) (cutI n20 (↑(l12.length):Int) l12),.int .i64 i22]) fun r23=>
     zbn r23 fun l24=>
     sif (0+l24.length≤l24.length) <|
     zar (zbu [.agg [.int .i64 i13,.int .i64 i14,.int .i64 i15],.int .i64 i17,.sl .lent (cut 0 l24.length l24)]) fun r25=>
     ze3 r25 fun ts26=>
     zaz ([Lf.any,Lf.any]) ts26 fun c27=>
     zbn c27.1 fun l28=>
     asB c27.2.1 fun b29=>
     sif (l28.length=l28.length) <|
     zb2 (α:=(Int×List D×(Int×Int×Int×PUnit)×D×Int×List D×Bool×Int×PUnit)×List (List D)×List (List D)×PUnit) (fun again30 ((i31,(l32,((i33,(i34,(i35,_))),(x36,(i37,(l38,(b39,(i40,_)))))))),(U41,(U42,_)))=>
      brK b39
       (sif (0+l38.length≤l38.length) <|
       brK (decide (i40 < (↑(l38.length):Int)))
        (brK (decide (i40 < i31))
         (letN (IntKind.i64.wrap (36+i37)) fun n43=>
         sif (0≤i40) <|
         sif (i40.toNat < l38.length) <|
         getK l38 (0+i40.toNat) fun d44=>
         asSl d44 fun t45 l46=>
         zar (zbf [x36,.int .i64 i40,.int .i64 n43,.sl t45 l46] [U41,U42]) fun r47=>
         nilK r47.outs <|
         zc1 r47.tbs fun c48 q49=>
         nilK q49 <|
         asI .i64 r47.r fun i50=>
         letN (IntKind.i64.wrap (i40+1)) fun n51=>
         sif (l38.length=l38.length) <|
         again30 (((i31,l32,(i33,i34,i35,unit),x36,i37,l38,b39,n51,unit),U41,c48,unit)))
         (letN (IntKind.i64.wrap (i37+1)) fun n52=>
         again10 (((i31,l32,(i33,i34,i35,unit),x36,n52,unit),U41,U42,unit))))
        (letN (IntKind.i64.wrap (i37+1)) fun n53=>
        again10 (((i31,l32,(i33,i34,i35,unit),x36,n53,unit),U41,U42,unit))))
       (letN (IntKind.i64.wrap (i37+1)) fun n54=>
       again10 (((i31,l32,(i33,i34,i35,unit),x36,n54,unit),U41,U42,unit))))
      (((i11,l12,(i13,i14,i15,unit),x16,i17,l28,b29,(0:Int),unit),U18,U19,unit)))
     (sif (D.free x16=true) <|
     some (Ans.mk x16 [] [U18,U19])))
    (((a1,a2,(a0_0,a0_1,a0_2,unit),c7.1,(0:Int),unit),c2,c4,unit))))
theorem zmo (zbx:Zs) (zag zbe zbu:Zp) (zbf:Zs) (tga2:Tag) (a0_0 a0_1 a0_2 a1:Int) (a2:List D) (T0 T1:Tb):denS Tryz.prog (zay [(ID.bench_New,(.st [] [0,0] [(2496,true),(8225,true)] zbx)),(ID.wattleref01_Width,(.pure [0] zag)),(ID.wattleplay_Sectors,(.pure [1] zbe)),(ID.wattleref01_Fill,(.pure [1,0] zbu)),(ID.bench_Bench_Damage,(.st [] [0] [(2496,false),(8225,true)] zbf))]) zf4 [0] ID.wattlelaw14_Filled [.agg [.int .i64 a0_0,.int .i64 a0_1,.int .i64 a0_2],.int .i64 a1,.sl tga2 a2] [T0,T1]=zeW zbx zag zbe zbu zbf a0_0 a0_1 a0_2 a1 (D.lentL a2) T0 T1:=by kernel_rfl
theorem zjR (tga2:Tag) (a0_0 a0_1 a0_2 a1:Int) (a2:List D) (T0 T1:Tb):zba [.agg [.int .i64 a0_0,.int .i64 a0_1,.int .i64 a0_2],.int .i64 a1,.sl tga2 a2] [T0,T1]=zeW zbx zag zbe zbu zbf a0_0 a0_1 a0_2 a1 (D.lentL a2) T0 T1:=zmo zbx zag zbe zbu zbf tga2 a0_0 a0_1 a0_2 a1 a2 T0 T1
def zhC:Ann:={ loops:=[(0,.val (.cell (.int .i64))::.val (.cell (.int .i64))::dd 3 (.own 1::dd 4 [.val (.cell (.int .i64)),.val (.cell (.int .i64))]))] }
noncomputable def zbF:Zp:=denP Tryz.prog (zay [(ID.wattlekeep_Within,(.pure [0] zac))]) zhC [1] ID.wattleplay_Live
theorem zlg:Sound Tryz.prog ID.wattleplay_Live (.pure [1] zbF):=zao (zaA [zdn]) zbg ⟨Tryz.f11,by kernel_rfl,by kernel_rfl,by kernel_rfl⟩
noncomputable def zmp:Fact Tryz.prog:=⟨ID.wattleplay_Live,(.pure [1] zbF),zlg⟩
noncomputable def zgg (zac:Zp) (a0 a1:Int):Option D:=
 sif (0≤a1) <|
 sif (a1=a1) <|
 sif (a1*1≤140737488355328) <|
 sif (a1≤140737488355328) <|
 sif (0+a1.toNat≤List.length (List.replicate (a1.toNat) (D.bool false))) <|
 sif (a1.toNat=List.length (List.replicate (a1.toNat) (D.bool false))) <|
 zb2 (α:=(Int×Int×List D×Int×Int×PUnit)×PUnit) (fun again1 ((i2,(i3,(l4,(i5,(i6,_))))),_)=>
  brK (decide (i6 < i5))
   (sif (0≤i6) <|
   sif (i6.toNat < l4.length) <|
   getK l4 (0+i6.toNat) fun d7=>
   sif (D.isAgg d7=false) <|
   letN (IntKind.i64.wrap (i6+1)) fun n8=>
   sif (l4.length=List.length (List.set l4 (0+i6.toNat) (D.bool true))) <|
   again1 (((i2,i3,List.set l4 (0+i6.toNat) (.bool true),i5,n8,unit),unit)))
   (brK (decide (i3 > 0))
    (zar (zac [.int .i64 i2,.int .i64 3]) fun r9=>
    asI .i64 r9 fun i10=>
    brK (decide (i10 > 0))
     (letN (IntKind.i64.wrap (Int.tdiv i2 (3:Int))) fun n11=>
     zar (zac [.int .i64 n11,.int .i64 i3]) fun r12=>
     asI .i64 r12 fun i13=>
     sif (0≤i13) <|
     sif (i13.toNat < l4.length) <|
     getK l4 (0+i13.toNat) fun d14=>
     sif (D.isAgg d14=false) <|
     brK (decide (i3 > 0))
      (zar (zac [.int .i64 i2,.int .i64 9]) fun r15=>
      asI .i64 r15 fun i16=>
      brK (i16 == 8)
       (letN (IntKind.i64.wrap (Int.tdiv i2 (27:Int))) fun n17=>
       zar (zac [.int .i64 n17,.int .i64 i3]) fun r18=>
       asI .i64 r18 fun i19=>
       sif (0≤i19) <|
       sif (i19.toNat < l4.length) <|
       getK (List.set l4 (0+i13.toNat) (.bool false)) (0+i19.toNat) fun d20=>
       sif (D.isAgg d20=false) <|
       sif (l4.length=List.length (List.set (List.set l4 (0+i13.toNat) (D.bool false)) (0+i19.toNat) (D.bool false))) <|
       sif (List.all (List.set (List.set l4 (0+i13.toNat) (D.bool false)) (0+i19.toNat) (D.bool false)) D.free=true) <|
       some (.sl .own (List.set (List.set l4 (0+i13.toNat) (.bool false)) (0+i19.toNat) (.bool false))))
       (sif (l4.length=List.length (List.set l4 (0+i13.toNat) (.bool false))) <|
       sif (List.all (List.set l4 (0+i13.toNat) (D.bool false)) D.free=true) <|
       some (.sl .own (List.set l4 (0+i13.toNat) (.bool false)))))
      (sif (l4.length=List.length (List.set l4 (0+i13.toNat) (.bool false))) <|
      sif (List.all (List.set l4 (0+i13.toNat) (D.bool false)) D.free=true) <|
      some (.sl .own (List.set l4 (0+i13.toNat) (.bool false)))))
     (brK (decide (i3 > 0))
      (zar (zac [.int .i64 i2,.int .i64 9]) fun r21=>
      asI .i64 r21 fun i22=>
      brK (i22 == 8)
       (letN (IntKind.i64.wrap (Int.tdiv i2 (27:Int))) fun n23=>
       zar (zac [.int .i64 n23,.int .i64 i3]) fun r24=>
       asI .i64 r24 fun i25=>
       sif (0≤i25) <|
       sif (i25.toNat < l4.length) <|
       getK l4 (0+i25.toNat) fun d26=>
       sif (D.isAgg d26=false) <|
       sif (l4.length=List.length (List.set l4 (0+i25.toNat) (D.bool false))) <|
       sif (List.all (List.set l4 (0+i25.toNat) (D.bool false)) D.free=true) <|
       some (.sl .own (List.set l4 (0+i25.toNat) (.bool false))))
       (sif (l4.length=l4.length) <|
       sif (List.all l4 D.free=true) <|
       some (.sl .own l4)))
      (sif (l4.length=l4.length) <|
      sif (List.all l4 D.free=true) <|
      some (.sl .own l4))))
    (brK (decide (i3 > 0))
     (zar (zac [.int .i64 i2,.int .i64 9]) fun r27=>
     asI .i64 r27 fun i28=>
     brK (i28 == 8)
      (letN (IntKind.i64.wrap (Int.tdiv i2 (27:Int))) fun n29=>
      zar (zac [.int .i64 n29,.int .i64 i3]) fun r30=>
      asI .i64 r30 fun i31=>
      sif (0≤i31) <|
      sif (i31.toNat < l4.length) <|
      getK l4 (0+i31.toNat) fun d32=>
      sif (D.isAgg d32=false) <|
      sif (l4.length=List.length (List.set l4 (0+i31.toNat) (D.bool false))) <|
      sif (List.all (List.set l4 (0+i31.toNat) (D.bool false)) D.free=true) <|
      some (.sl .own (List.set l4 (0+i31.toNat) (.bool false))))
      (sif (l4.length=l4.length) <|
      sif (List.all l4 D.free=true) <|
      some (.sl .own l4)))
     (sif (l4.length=l4.length) <|
     sif (List.all l4 D.free=true) <|
     some (.sl .own l4)))))
  (((a0,a1,List.replicate (a1.toNat) (.bool false),(↑(a1.toNat):Int),(0:Int),unit),unit))
theorem zpA (zac:Zp) (a0 a1:Int):denP Tryz.prog (zay [(ID.wattlekeep_Within,(.pure [0] zac))]) zhC [1] ID.wattleplay_Live [.int .i64 a0,.int .i64 a1]=zgg zac a0 a1:=by kernel_rfl
theorem zmq (a0 a1:Int):zbF [.int .i64 a0,.int .i64 a1]=zgg zac a0 a1:=zpA zac a0 a1
def zfs:Ann:={ loops:=[(0,.val (.cell .lent)::.val (.cell (.int .i64))::dd 5 [.val (.cell (.int .i64)),.val (.cell (.int .i64))])] }
noncomputable def zaG:Zp:=denP Tryz.prog (zay []) zfs [0] ID.slices_Index_int_int
theorem zhX:Sound Tryz.prog ID.slices_Index_int_int (.pure [0] zaG):=zao (zaA []) zbg ⟨Tryz.f66,by kernel_rfl,by kernel_rfl,by kernel_rfl⟩
noncomputable def ze7:Fact Tryz.prog:=⟨ID.slices_Index_int_int,(.pure [0] zaG),zhX⟩
noncomputable def zdq (a0:List D) (a1:Int):Option D:=
 zb2 (α:=(List D×Int×Int×Int×PUnit)×PUnit) (fun again1 ((l2,(i3,(i4,(i5,_)))),_)=>
  brK (decide (i5 < i4))
   (sif (0≤i5) <|
   getK l2 (i5.toNat) fun d6=>
   asI .i64 d6 fun i7=>
   brK (i3 == i7)
    (some (.int .i64 i5))
    (letN (IntKind.i64.wrap (i5+1)) fun n8=>
    again1 (((l2,i3,i4,n8,unit),unit))))
   (some (.int .i64 (-1))))
  (((a0,a1,(↑(a0.length):Int),(0:Int),unit),unit))
theorem zku (tga0:Tag) (a0:List D) (a1:Int):denP Tryz.prog (zay []) zfs [0] ID.slices_Index_int_int [.sl tga0 a0,.int .i64 a1]=zdq (D.lentL a0) a1:=by kernel_rfl
theorem ze8 (tga0:Tag) (a0:List D) (a1:Int):zaG [.sl tga0 a0,.int .i64 a1]=zdq (D.lentL a0) a1:=zku tga0 a0 a1
def zex:Ann:={ loops:=[] }
noncomputable def zaV:Zp:=denP Tryz.prog (zay [(ID.slices_Index_int_int,(.pure [0] zaG))]) zex [0] ID.slices_Contains_int_int
theorem zgJ:Sound Tryz.prog ID.slices_Contains_int_int (.pure [0] zaV):=zao (zaA [ze7]) zbg ⟨Tryz.f122,by kernel_rfl,by kernel_rfl,by kernel_rfl⟩
noncomputable def zg4:Fact Tryz.prog:=⟨ID.slices_Contains_int_int,(.pure [0] zaV),zgJ⟩
noncomputable def zdM (zaG:Zp) (a0:List D) (a1:Int):Option D:=
 zar (zaG [.sl .lent a0,.int .i64 a1]) fun r1=>
 asI .i64 r1 fun i2=>
 some (.bool (decide (i2≥0)))
theorem zir (zaG:Zp) (tga0:Tag) (a0:List D) (a1:Int):denP Tryz.prog (zay [(ID.slices_Index_int_int,(.pure [0] zaG))]) zex [0] ID.slices_Contains_int_int [.sl tga0 a0,.int .i64 a1]=zdM zaG (D.lentL a0) a1:=by kernel_rfl
theorem zg5 (tga0:Tag) (a0:List D) (a1:Int):zaV [.sl tga0 a0,.int .i64 a1]=zdM zaG (D.lentL a0) a1:=zir zaG tga0 a0 a1
def zmK:Ann:={ loops:=[] }
noncomputable def zaC:Zp:=denP Tryz.prog (zay [(ID.slices_Contains_int_int,(.pure [0] zaV))]) zmK [0] ID.geom_Check
theorem zqG:Sound Tryz.prog ID.geom_Check (.pure [0] zaC):=zao (zaA [zg4]) zbg ⟨Tryz.f82,by kernel_rfl,by kernel_rfl,by kernel_rfl⟩
noncomputable def zey:Fact Tryz.prog:=⟨ID.geom_Check,(.pure [0] zaC),zqG⟩
noncomputable def zlh (zaV:Zp) (a0_0 a0_1 a0_2:Int):Option D:=
 asI .i64 (zBe a0_0 (.int .i64 0) (setD (6:Int) (.int .i64 4) (setD (5:Int) (.int .i64 3) []))) fun i1=>
 brK (i1 == 0)
  (some (.int .i64 1))
  (brK (decide (a0_1 < i1))
   (some (.int .i64 1))
   (brK (decide (a0_1 > 8))
    (some (.int .i64 1))
    (zar (zaV [.sl .full [.int .i64 1,.int .i64 2,.int .i64 4],.int .i64 a0_2]) fun r2=>
    asB r2 fun b3=>
    brK (!b3)
     (some (.int .i64 1))
     (some (.int .i64 0)))))
theorem zxZ (zaV:Zp) (a0_0 a0_1 a0_2:Int):denP Tryz.prog (zay [(ID.slices_Contains_int_int,(.pure [0] zaV))]) zmK [0] ID.geom_Check [.agg [.int .i64 a0_0,.int .i64 a0_1,.int .i64 a0_2]]=zlh zaV a0_0 a0_1 a0_2:=by kernel_rfl
theorem zsi (a0_0 a0_1 a0_2:Int):zaC [.agg [.int .i64 a0_0,.int .i64 a0_1,.int .i64 a0_2]]=zlh zaV a0_0 a0_1 a0_2:=zxZ zaV a0_0 a0_1 a0_2
def zli:Ann:={ loops:=[] }
noncomputable def zbi:Zp:=denP Tryz.prog (zay [(ID.geom_Check,(.pure [0] zaC))]) zli [0] ID.geom_Budget
theorem zpB:Sound Tryz.prog ID.geom_Budget (.pure [0] zbi):=zao (zaA [zey]) zbg ⟨Tryz.f132,by kernel_rfl,by kernel_rfl,by kernel_rfl⟩
noncomputable def zka:Fact Tryz.prog:=⟨ID.geom_Budget,(.pure [0] zbi),zpB⟩
noncomputable def zjS (zaC:Zp) (a0_0 a0_1 a0_2:Int):Option D:=
 zar (zaC [.agg [.int .i64 a0_0,.int .i64 a0_1,.int .i64 a0_2]]) fun r1=>
 asI .i64 r1 fun i2=>
 brK (i2 != 0)
  (some (.int .i64 0))
  (letN (IntKind.i64.wrap (a0_0 - 4)) fun n3=>
  some (.int .i64 n3))
theorem zv1 (zaC:Zp) (a0_0 a0_1 a0_2:Int):denP Tryz.prog (zay [(ID.geom_Check,(.pure [0] zaC))]) zli [0] ID.geom_Budget [.agg [.int .i64 a0_0,.int .i64 a0_1,.int .i64 a0_2]]=zjS zaC a0_0 a0_1 a0_2:=by kernel_rfl
theorem zqH (a0_0 a0_1 a0_2:Int):zbi [.agg [.int .i64 a0_0,.int .i64 a0_1,.int .i64 a0_2]]=zjS zaC a0_0 a0_1 a0_2:=zv1 zaC a0_0 a0_1 a0_2
def zmL:Ann:={ loops:=[] }
noncomputable def zai:Zp:=denP Tryz.prog (zay [(ID.geom_Check,(.pure [0] zaC)),(ID.geom_Budget,(.pure [0] zbi))]) zmL [0] ID.geom_Width
theorem zqI:Sound Tryz.prog ID.geom_Width (.pure [0] zai):=zao (zaA [zey,zka]) zbg ⟨Tryz.f101,by kernel_rfl,by kernel_rfl,by kernel_rfl⟩
noncomputable def zdl:Fact Tryz.prog:=⟨ID.geom_Width,(.pure [0] zai),zqI⟩
noncomputable def zlj (zaC zbi:Zp) (a0_0 a0_1 a0_2:Int):Option D:=
 zar (zaC [.agg [.int .i64 a0_0,.int .i64 a0_1,.int .i64 a0_2]]) fun r1=>
 asI .i64 r1 fun i2=>
 brK (i2 != 0)
  (some (.int .i64 0))
  (zar (zbi [.agg [.int .i64 a0_0,.int .i64 a0_1,.int .i64 a0_2]]) fun r3=>
  asI .i64 r3 fun i4=>
  letN (IntKind.i64.wrap (a0_1 - i4)) fun n5=>
  some (.int .i64 n5))
theorem zx0 (zaC zbi:Zp) (a0_0 a0_1 a0_2:Int):denP Tryz.prog (zay [(ID.geom_Check,(.pure [0] zaC)),(ID.geom_Budget,(.pure [0] zbi))]) zmL [0] ID.geom_Width [.agg [.int .i64 a0_0,.int .i64 a0_1,.int .i64 a0_2]]=zlj zaC zbi a0_0 a0_1 a0_2:=by kernel_rfl
theorem zsj (a0_0 a0_1 a0_2:Int):zai [.agg [.int .i64 a0_0,.int .i64 a0_1,.int .i64 a0_2]]=zlj zaC zbi a0_0 a0_1 a0_2:=zx0 zaC zbi a0_0 a0_1 a0_2
def zja:Ann:={ loops:=[] }
noncomputable def zbQ:Zp:=denP Tryz.prog (zay [(ID.geom_Width,(.pure [0] zai))]) zja [0] ID.geom_Capacity
theorem zni:Sound Tryz.prog ID.geom_Capacity (.pure [0] zbQ):=zao (zaA [zdl]) zbg ⟨Tryz.f87,by kernel_rfl,by kernel_rfl,by kernel_rfl⟩
noncomputable def zoz:Fact Tryz.prog:=⟨ID.geom_Capacity,(.pure [0] zbQ),zni⟩
noncomputable def zhD (zai:Zp) (a0_0 a0_1 a0_2:Int):Option D:=
 zar (zai [.agg [.int .i64 a0_0,.int .i64 a0_1,.int .i64 a0_2]]) fun r1=>
 asI .i64 r1 fun i2=>
 letN (IntKind.i64.wrap (i2*16)) fun n3=>
 some (.int .i64 n3)
theorem zsk (zai:Zp) (a0_0 a0_1 a0_2:Int):denP Tryz.prog (zay [(ID.geom_Width,(.pure [0] zai))]) zja [0] ID.geom_Capacity [.agg [.int .i64 a0_0,.int .i64 a0_1,.int .i64 a0_2]]=zhD zai a0_0 a0_1 a0_2:=by kernel_rfl
theorem zoA (a0_0 a0_1 a0_2:Int):zbQ [.agg [.int .i64 a0_0,.int .i64 a0_1,.int .i64 a0_2]]=zhD zai a0_0 a0_1 a0_2:=zsk zai a0_0 a0_1 a0_2
def zqt:Ann:={ loops:=[] }
noncomputable def zbp:Zp:=denP Tryz.prog (zay [(ID.geom_Check,(.pure [0] zaC))]) zqt [0] ID.place_in
theorem ztg:Sound Tryz.prog ID.place_in (.pure [0] zbp):=zao (zaA [zey]) zbg ⟨Tryz.f111,by kernel_rfl,by kernel_rfl,by kernel_rfl⟩
noncomputable def zjT:Fact Tryz.prog:=⟨ID.place_in,(.pure [0] zbp),ztg⟩
noncomputable def zpC (zaC:Zp) (a0_0 a0_1 a0_2 a1:Int):Option D:=
 zar (zaC [.agg [.int .i64 a0_0,.int .i64 a0_1,.int .i64 a0_2]]) fun r1=>
 asI .i64 r1 fun i2=>
 brK (i2 == 0)
  (brK (decide (a1≥0))
   (some (.bool (decide (a1 < 16))))
   (some (.bool false)))
  (some (.bool false))
theorem zBv (zaC:Zp) (a0_0 a0_1 a0_2 a1:Int):denP Tryz.prog (zay [(ID.geom_Check,(.pure [0] zaC))]) zqt [0] ID.place_in [.agg [.int .i64 a0_0,.int .i64 a0_1,.int .i64 a0_2],.int .i64 a1]=zpC zaC a0_0 a0_1 a0_2 a1:=by kernel_rfl
theorem zv2 (a0_0 a0_1 a0_2 a1:Int):zbp [.agg [.int .i64 a0_0,.int .i64 a0_1,.int .i64 a0_2],.int .i64 a1]=zpC zaC a0_0 a0_1 a0_2 a1:=zBv zaC a0_0 a0_1 a0_2 a1
def zkb:Ann:={ loops:=[] }
noncomputable def zaB:Zp:=denP Tryz.prog (zay [(ID.place_in,(.pure [0] zbp))]) zkb [0,0] ID.place_Parity
theorem zoB:Sound Tryz.prog ID.place_Parity (.pure [0,0] zaB):=zao (zaA [zjT]) zbg ⟨Tryz.f67,by kernel_rfl,by kernel_rfl,by kernel_rfl⟩
noncomputable def zeM:Fact Tryz.prog:=⟨ID.place_Parity,(.pure [0,0] zaB),zoB⟩
noncomputable def zis (zbp:Zp) (a0_0 a0_1 a0_2 a1:Int):Option D:=
 zar (zbp [.agg [.int .i64 a0_0,.int .i64 a0_1,.int .i64 a0_2],.int .i64 a1]) fun r1=>
 asB r1 fun b2=>
 brK (!b2)
  (some (.tup [.int .i64 (-1),.int .i64 (-1)]))
  (letN (IntKind.i64.wrap (a0_1 - 1)) fun n3=>
  sif (a0_2≠0) <|
  letN (IntKind.i64.wrap (Int.tdiv a1 a0_2)) fun n4=>
  sif (a0_1≠0) <|
  letN (Int.tmod n4 a0_1) fun n5=>
  letN (IntKind.i64.wrap (n3 - n5)) fun n6=>
  brK (a0_0 == 5)
   (some (.tup [.int .i64 n6,.int .i64 (-1)]))
   (letN (IntKind.i64.wrap (n6+1)) fun n7=>
   sif (a0_1≠0) <|
   letN (Int.tmod n7 a0_1) fun n8=>
   some (.tup [.int .i64 n6,.int .i64 n8])))
theorem zth (zbp:Zp) (a0_0 a0_1 a0_2 a1:Int):denP Tryz.prog (zay [(ID.place_in,(.pure [0] zbp))]) zkb [0,0] ID.place_Parity [.agg [.int .i64 a0_0,.int .i64 a0_1,.int .i64 a0_2],.int .i64 a1]=zis zbp a0_0 a0_1 a0_2 a1:=by kernel_rfl
theorem zpD (a0_0 a0_1 a0_2 a1:Int):zaB [.agg [.int .i64 a0_0,.int .i64 a0_1,.int .i64 a0_2],.int .i64 a1]=zis zbp a0_0 a0_1 a0_2 a1:=zth zbp a0_0 a0_1 a0_2 a1
def zmM:Ann:={ loops:=[] }
noncomputable def zaW:Zp:=denP Tryz.prog (zay [(ID.place_in,(.pure [0] zbp)),(ID.geom_Width,(.pure [0] zai)),(ID.place_Parity,(.pure [0,0] zaB)),(ID.geom_Budget,(.pure [0] zbi))]) zmM [0] ID.place_Disk
theorem zqJ:Sound Tryz.prog ID.place_Disk (.pure [0] zaW):=zao (zaA [zjT,zdl,zeM,zka]) zbg ⟨Tryz.f102,by kernel_rfl,by kernel_rfl,by kernel_rfl⟩
noncomputable def zhE:Fact Tryz.prog:=⟨ID.place_Disk,(.pure [0] zaW),zqJ⟩
noncomputable def zlk (zbp zai zaB zbi:Zp) (a0_0 a0_1 a0_2 a1 a2:Int):Option D:=
 zar (zbp [.agg [.int .i64 a0_0,.int .i64 a0_1,.int .i64 a0_2],.int .i64 a1]) fun r1=>
 asB r1 fun b2=>
 brK (!b2)
  (some (.int .i64 (-1)))
  (brK (decide (a2 < 0))
   (some (.int .i64 (-1)))
   (zar (zai [.agg [.int .i64 a0_0,.int .i64 a0_1,.int .i64 a0_2]]) fun r3=>
   asI .i64 r3 fun i4=>
   brK (decide (a2≥i4))
    (some (.int .i64 (-1)))
    (zar (zaB [.agg [.int .i64 a0_0,.int .i64 a0_1,.int .i64 a0_2],.int .i64 a1]) fun r5=>
    ze3 r5 fun ts6=>
    zaz ([Lf.any,Lf.any]) ts6 fun c7=>
    asI .i64 c7.1 fun i8=>
    asI .i64 c7.2.1 fun i9=>
    zar (zbi [.agg [.int .i64 a0_0,.int .i64 a0_1,.int .i64 a0_2]]) fun r10=>
    asI .i64 r10 fun i11=>
    letN (IntKind.i64.wrap (i8+i11)) fun n12=>
    letN (IntKind.i64.wrap (n12+a2)) fun n13=>
    sif (a0_1≠0) <|
    letN (Int.tmod n13 a0_1) fun n14=>
    some (.int .i64 n14))))
theorem zx1 (zbp zai zaB zbi:Zp) (a0_0 a0_1 a0_2 a1 a2:Int):denP Tryz.prog (zay [(ID.place_in,(.pure [0] zbp)),(ID.geom_Width,(.pure [0] zai)),(ID.place_Parity,(.pure [0,0] zaB)),(ID.geom_Budget,(.pure [0] zbi))]) zmM [0] ID.place_Disk [.agg [.int .i64 a0_0,.int .i64 a0_1,.int .i64 a0_2],.int .i64 a1,.int .i64 a2]=zlk zbp zai zaB zbi a0_0 a0_1 a0_2 a1 a2:=by kernel_rfl
theorem zsl (a0_0 a0_1 a0_2 a1 a2:Int):zaW [.agg [.int .i64 a0_0,.int .i64 a0_1,.int .i64 a0_2],.int .i64 a1,.int .i64 a2]=zlk zbp zai zaB zbi a0_0 a0_1 a0_2 a1 a2:=zx1 zbp zai zaB zbi a0_0 a0_1 a0_2 a1 a2
def zqu:Ann:={ loops:=[] }
noncomputable def zdg:Zp:=denP Tryz.prog (zay [(ID.geom_Capacity,(.pure [0] zbQ)),(ID.geom_Width,(.pure [0] zai)),(ID.place_Disk,(.pure [0] zaW))]) zqu [0,0,0] ID.place_Of
theorem zti:Sound Tryz.prog ID.place_Of (.pure [0,0,0] zdg):=zao (zaA [zoz,zdl,zhE]) zbg ⟨Tryz.f63,by kernel_rfl,by kernel_rfl,by kernel_rfl⟩
noncomputable def zv3:Fact Tryz.prog:=⟨ID.place_Of,(.pure [0,0,0] zdg),zti⟩
noncomputable def zpE (zbQ zai zaW:Zp) (a0_0 a0_1 a0_2 a1:Int):Option D:=
 brK (decide (a1 < 0))
  (some (.tup [.int .i64 0,.int .i64 0,.bool false]))
  (zar (zbQ [.agg [.int .i64 a0_0,.int .i64 a0_1,.int .i64 a0_2]]) fun r1=>
  asI .i64 r1 fun i2=>
  brK (decide (a1≥i2))
   (some (.tup [.int .i64 0,.int .i64 0,.bool false]))
   (sif (a0_2≠0) <|
   letN (IntKind.i64.wrap (Int.tdiv a1 a0_2)) fun n3=>
   zar (zai [.agg [.int .i64 a0_0,.int .i64 a0_1,.int .i64 a0_2]]) fun r4=>
   asI .i64 r4 fun i5=>
   sif (i5≠0) <|
   letN (IntKind.i64.wrap (Int.tdiv n3 i5)) fun n6=>
   letN (IntKind.i64.wrap (n6*a0_2)) fun n7=>
   sif (a0_2≠0) <|
   letN (Int.tmod a1 a0_2) fun n8=>
   letN (IntKind.i64.wrap (n7+n8)) fun n9=>
   zar (zai [.agg [.int .i64 a0_0,.int .i64 a0_1,.int .i64 a0_2]]) fun r10=>
   asI .i64 r10 fun i11=>
   sif (i11≠0) <|
   letN (Int.tmod n3 i11) fun n12=>
   zar (zaW [.agg [.int .i64 a0_0,.int .i64 a0_1,.int .i64 a0_2],.int .i64 n9,.int .i64 n12]) fun r13=>
   asI .i64 r13 fun i14=>
   some (.tup [.int .i64 i14,.int .i64 n9,.bool true])))
theorem zBw (zbQ zai zaW:Zp) (a0_0 a0_1 a0_2 a1:Int):denP Tryz.prog (zay [(ID.geom_Capacity,(.pure [0] zbQ)),(ID.geom_Width,(.pure [0] zai)),(ID.place_Disk,(.pure [0] zaW))]) zqu [0,0,0] ID.place_Of [.agg [.int .i64 a0_0,.int .i64 a0_1,.int .i64 a0_2],.int .i64 a1]=zpE zbQ zai zaW a0_0 a0_1 a0_2 a1:=by kernel_rfl
theorem zv4 (a0_0 a0_1 a0_2 a1:Int):zdg [.agg [.int .i64 a0_0,.int .i64 a0_1,.int .i64 a0_2],.int .i64 a1]=zpE zbQ zai zaW a0_0 a0_1 a0_2 a1:=zBw zbQ zai zaW a0_0 a0_1 a0_2 a1
def zhF:Ann:={ loops:=[],ks:=[(2496,false)] }
noncomputable def zal:Zs:=denS Tryz.prog (zay []) zhF [0] ID.bench_Bench_Len
theorem zll:Sound Tryz.prog ID.bench_Bench_Len (.st [] [0] [(2496,false)] zal):=za9 (zaA []) zbg ⟨Tryz.f70,by kernel_rfl,by kernel_rfl,by kernel_rfl⟩
noncomputable def zdR:Fact Tryz.prog:=⟨ID.bench_Bench_Len,(.st [] [0] [(2496,false)] zal),zll⟩
noncomputable def zgh (a0:Nat) (T0:Tb):Option Ans:=
 getK T0 a0 fun d1=>
 getK d1 ((3:Nat)) fun d2=>
 zbn d2 fun l3=>
 getK T0 a0 fun d4=>
 getK d4 ((3:Nat)) fun d5=>
 zbn d5 fun l6=>
 sif (0+l3.length≤l6.length) <|
 some (Ans.mk (.int .i64 (↑(l3.length):Int)) [] [])
theorem zpF (a0:Nat) (T0:Tb):denS Tryz.prog (zay []) zhF [0] ID.bench_Bench_Len [.h 2496 a0 0] [T0]=zgh a0 T0:=by kernel_rfl
theorem zmr (a0:Nat) (T0:Tb):zal [.h 2496 a0 0] [T0]=zgh a0 T0:=zpF a0 T0
def zgW:Ann:={ loops:=[],ks:=[(8225,false)] }
noncomputable def zbw:Zs:=denS Tryz.prog (zay []) zgW [0] ID.disk_Disk_Failed
theorem zkv:Sound Tryz.prog ID.disk_Disk_Failed (.st [] [0] [(8225,false)] zbw):=za9 (zaA []) zbg ⟨Tryz.f144,by kernel_rfl,by kernel_rfl,by kernel_rfl⟩
noncomputable def zlm:Fact Tryz.prog:=⟨ID.disk_Disk_Failed,(.st [] [0] [(8225,false)] zbw),zkv⟩
noncomputable def zfN (a0:Nat) (T0:Tb):Option Ans:=
 getK T0 a0 fun d1=>
 getK d1 ((1665:Nat)) fun d2=>
 asB d2 fun b3=>
 some (Ans.mk (.bool b3) [] [])
theorem zoC (a0:Nat) (T0:Tb):denS Tryz.prog (zay []) zgW [0] ID.disk_Disk_Failed [.h 8225 a0 0] [T0]=zfN a0 T0:=by kernel_rfl
theorem zln (a0:Nat) (T0:Tb):zbw [.h 8225 a0 0] [T0]=zfN a0 T0:=zoC a0 T0
def zf5:Ann:={ loops:=[],ks:=[(2496,false),(8225,false)] }
noncomputable def zaL:Zs:=denS Tryz.prog (zay [(ID.bench_Bench_is,(.st [] [0] [(2496,false)] zaH)),(ID.disk_Disk_Failed,(.st [] [0] [(8225,false)] zbw))]) zf5 [0] ID.bench_Bench_Failed
theorem zjb:Sound Tryz.prog ID.bench_Bench_Failed (.st [] [0] [(2496,false),(8225,false)] zaL):=za9 (zaA [zfl,zlm]) zbg ⟨Tryz.f110,by kernel_rfl,by kernel_rfl,by kernel_rfl⟩
noncomputable def zfO:Fact Tryz.prog:=⟨ID.bench_Bench_Failed,(.st [] [0] [(2496,false),(8225,false)] zaL),zjb⟩
noncomputable def zeX (zaH zbw:Zs) (a0:Nat) (a1:Int) (T0 T1:Tb):Option Ans:=
 zar (zaH [.h 2496 a0 0,.int .i64 a1] [T0]) fun r1=>
 nilK r1.outs <|
 nilK r1.tbs <|
 asB r1.r fun b2=>
 brK b2
  (getK T0 a0 fun d3=>
  getK d3 ((3:Nat)) fun d4=>
  zbn d4 fun l5=>
  getK T0 a0 fun d6=>
  getK d6 ((3:Nat)) fun d7=>
  zbn d7 fun l8=>
  sif (0≤a1) <|
  sif (a1.toNat < l5.length) <|
  getK T0 a0 fun d9=>
  getK d9 ((3:Nat)) fun d10=>
  zbn d10 fun l11=>
  getK l11 (0+a1.toNat) fun d12=>
  sif (D.isAgg d12=false) <|
  sif (D.width d12=(1:Nat)) <|
  sif (D.cell d12=true) <|
  zar (zbw [d12] [T1]) fun r13=>
  nilK r13.outs <|
  nilK r13.tbs <|
  asB r13.r fun b14=>
  some (Ans.mk (.bool b14) [] []))
  (some (Ans.mk (.bool false) [] []))
theorem zms (zaH zbw:Zs) (a0:Nat) (a1:Int) (T0 T1:Tb):denS Tryz.prog (zay [(ID.bench_Bench_is,(.st [] [0] [(2496,false)] zaH)),(ID.disk_Disk_Failed,(.st [] [0] [(8225,false)] zbw))]) zf5 [0] ID.bench_Bench_Failed [.h 2496 a0 0,.int .i64 a1] [T0,T1]=zeX zaH zbw a0 a1 T0 T1:=by kernel_rfl
theorem zjU (a0:Nat) (a1:Int) (T0 T1:Tb):zaL [.h 2496 a0 0,.int .i64 a1] [T0,T1]=zeX zaH zbw a0 a1 T0 T1:=zms zaH zbw a0 a1 T0 T1
def zoD:Ann:={ loops:=[],ks:=[(2496,false),(8225,false)] }
noncomputable def zc3:Zs:=denS Tryz.prog (zay [(ID.bench_Bench_Len,(.st [] [0] [(2496,false)] zal)),(ID.bench_Bench_Failed,(.st [] [0] [(2496,false),(8225,false)] zaL))]) zoD [0] ID.stripe_up
theorem zsm:Sound Tryz.prog ID.stripe_up (.st [] [0] [(2496,false),(8225,false)] zc3):=za9 (zaA [zdR,zfO]) zbg ⟨Tryz.f64,by kernel_rfl,by kernel_rfl,by kernel_rfl⟩
noncomputable def ztj:Fact Tryz.prog:=⟨ID.stripe_up,(.st [] [0] [(2496,false),(8225,false)] zc3),zsm⟩
noncomputable def znj (zal zaL:Zs) (a0:Nat) (a1:List D) (a2:Int) (T0 T1:Tb):Option Ans:=
 zar (zal [.h 2496 a0 0] [T0]) fun r1=>
 nilK r1.outs <|
 nilK r1.tbs <|
 asI .i64 r1.r fun i2=>
 brK (decide (a2 < i2))
  (brK (decide (a2 < (↑(a1.length):Int)))
   (sif (0≤a2) <|
   getK a1 (a2.toNat) fun d3=>
   asB d3 fun b4=>
   brK b4
    (zar (zaL [.h 2496 a0 0,.int .i64 a2] [T0,T1]) fun r5=>
    nilK r5.outs <|
    nilK r5.tbs <|
    asB r5.r fun b6=>
    some (Ans.mk (.bool !b6) [] []))
    (some (Ans.mk (.bool false) [] [])))
   (some (Ans.mk (.bool false) [] [])))
  (some (Ans.mk (.bool false) [] []))
theorem zzl (zal zaL:Zs) (tga1:Tag) (a0:Nat) (a1:List D) (a2:Int) (T0 T1:Tb):denS Tryz.prog (zay [(ID.bench_Bench_Len,(.st [] [0] [(2496,false)] zal)),(ID.bench_Bench_Failed,(.st [] [0] [(2496,false),(8225,false)] zaL))]) zoD [0] ID.stripe_up [.h 2496 a0 0,.sl tga1 a1,.int .i64 a2] [T0,T1]=znj zal zaL a0 (D.lentL a1) a2 T0 T1:=by kernel_rfl
theorem ztk (tga1:Tag) (a0:Nat) (a1:List D) (a2:Int) (T0 T1:Tb):zc3 [.h 2496 a0 0,.sl tga1 a1,.int .i64 a2] [T0,T1]=znj zal zaL a0 (D.lentL a1) a2 T0 T1:=zzl zal zaL tga1 a0 a1 a2 T0 T1
def zhG:Ann:={ loops:=[],ks:=[(2496,false)] }
noncomputable def zaD:Zs:=denS Tryz.prog (zay [(ID.bench_Bench_is,(.st [] [0] [(2496,false)] zaH))]) zhG [0] ID.bench_Bench_may
theorem zlo:Sound Tryz.prog ID.bench_Bench_may (.st [] [0] [(2496,false)] zaD):=za9 (zaA [zfl]) zbg ⟨Tryz.f53,by kernel_rfl,by kernel_rfl,by kernel_rfl⟩
noncomputable def zeY:Fact Tryz.prog:=⟨ID.bench_Bench_may,(.st [] [0] [(2496,false)] zaD),zlo⟩
noncomputable def zgi (zaH:Zs) (a0:Nat) (a1:Int) (T0:Tb):Option Ans:=
 zar (zaH [.h 2496 a0 0,.int .i64 a1] [T0]) fun r1=>
 nilK r1.outs <|
 nilK r1.tbs <|
 asB r1.r fun b2=>
 brK (!b2)
  (some (Ans.mk (.int .i64 1) [] []))
  (getK T0 a0 fun d3=>
  getK d3 ((2:Nat)) fun d4=>
  asB d4 fun b5=>
  brK b5
   (some (Ans.mk (.int .i64 6) [] []))
   (some (Ans.mk (.int .i64 0) [] [])))
theorem zpG (zaH:Zs) (a0:Nat) (a1:Int) (T0:Tb):denS Tryz.prog (zay [(ID.bench_Bench_is,(.st [] [0] [(2496,false)] zaH))]) zhG [0] ID.bench_Bench_may [.h 2496 a0 0,.int .i64 a1] [T0]=zgi zaH a0 a1 T0:=by kernel_rfl
theorem zmt (a0:Nat) (a1:Int) (T0:Tb):zaD [.h 2496 a0 0,.int .i64 a1] [T0]=zgi zaH a0 a1 T0:=zpG zaH a0 a1 T0
def zeO:Ann:={ loops:=[] }
noncomputable def zae:Zp:=denE Tryz.prog (zay []) zeO [1] ID.slices_Clone_byte_byte
theorem zg6:Sound Tryz.prog ID.slices_Clone_byte_byte (.pure [1] zae):=zun (zaA []) zbg ⟨Tryz.f99,by kernel_rfl,by kernel_rfl,by kernel_rfl⟩
noncomputable def zdm:Fact Tryz.prog:=⟨ID.slices_Clone_byte_byte,(.pure [1] zae),zg6⟩
noncomputable def zdU (a0:D) (b0:List D):Option D:=
 sif (List.length (a0::b0)≤4294967296) <|
 sif (zec (1:Nat) (a0::b0)=true) <|
 sif (List.length (a0::b0)=List.length (a0::b0)) <|
 sif (List.all (a0::b0) D.free=true) <|
 some (.sl .own (a0::b0))
theorem zjc (tga0:Tag) (a0:D) (b0:List D):denE Tryz.prog (zay []) zeO [1] ID.slices_Clone_byte_byte [.sl tga0 (a0::b0)]=zdU (D.lent a0) (D.lentL b0):=by kernel_rfl
theorem zhH (tga0:Tag) (a0:D) (b0:List D):zae [.sl tga0 (a0::b0)]=zdU (D.lent a0) (D.lentL b0):=zjc tga0 a0 b0
theorem zg7 (tg:Tag):zae [.sl tg []]=some (.sl .own []):=(zqn (some (.sl .own [])))
def zif:Ann:={ loops:=[(1,.dead::.val (.cell (.int .i64))::dd 5 (.box true [(.arr 32)]::dd 17 [.view 8225 1664,.val (.cell (.int .i64)),.val (.cell (.int .i64))]))],ks:=[(8225,false)] }
noncomputable def zbP:Zs:=denS Tryz.prog (zay [(ID.disk_Disk_may,(.st [] [0] [(8225,false)] za4)),(ID.slices_Clone_byte_byte,(.pure [1] zae))]) zif [1,0] ID.disk_Disk_Read
theorem zmu:Sound Tryz.prog ID.disk_Disk_Read (.st [] [1,0] [(8225,false)] zbP):=za9 (zaA [zid,zdm]) zbg ⟨Tryz.f54,by kernel_rfl,by kernel_rfl,by kernel_rfl⟩
noncomputable def znk:Fact Tryz.prog:=⟨ID.disk_Disk_Read,(.st [] [1,0] [(8225,false)] zbP),zmu⟩
noncomputable def zgK (za4:Zs) (zae:Zp) (a0:Nat) (a1:Int) (T0:Tb):Option Ans:=
 zar (za4 [.h 8225 a0 0,.int .i64 a1] [T0]) fun r1=>
 nilK r1.outs <|
 nilK r1.tbs <|
 asI .i64 r1.r fun i2=>
 brK (i2 != 0)
  (some (Ans.mk (.tup [.sl .own [],.int .i64 i2]) [] []))
  (sif (0≤a1) <|
  sif (a1.toNat < 52) <|
  getK T0 a0 fun d3=>
  sif (0+a1.toNat*32+32≤d3.length) <|
  sif (zim (List.take (32:Nat) (List.drop (0+a1.toNat*32) d3))=true) <|
  sif (List.length (List.take (32:Nat) (List.drop (0+a1.toNat*32) d3))=(32:Nat)) <|
  sif (List.length (List.take (32:Nat) (List.drop (0+a1.toNat*32) d3))=(32:Nat)) <|
  getK T0 a0 fun d4=>
  getK d4 ((1664:Nat)) fun d5=>
  zbn d5 fun l6=>
  getK T0 a0 fun d7=>
  getK d7 ((1664:Nat)) fun d8=>
  zbn d8 fun l9=>
  sif (0+l6.length≤l9.length) <|
  zaz ([Lf.arr (32)]) (List.take (32:Nat) (List.drop (0+a1.toNat*32) d3)) fun c10=>
  zb2 (α:=(Int×(List D×PUnit)×(Nat×Nat×Nat)×Int×Int×PUnit)×List (List D)×PUnit) (fun again11 ((i12,((l13,_),((x14,(x15,x16)),(i17,(i18,_))))),(U19,_))=>
   brK (decide (i18 < i17))
    (getK U19 x14 fun d20=>
    getK d20 ((1664:Nat)) fun d21=>
    zbn d21 fun l22=>
    sif (0≤i18) <|
    sif (i18.toNat < x16) <|
    getK U19 x14 fun d23=>
    getK d23 ((1664:Nat)) fun d24=>
    zbn d24 fun l25=>
    getK l25 (x15+i18.toNat) fun d26=>
    asAgg d26 fun cs27=>
    zaz ([Lf.int .i64,Lf.arr (32)]) cs27 fun c28=>
    sif (D.width (D.agg ([D.int .i64 c28.1]++(c28.2.1++[])))=(33:Nat)) <|
    sif (List.length ([D.int .i64 c28.1]++(c28.2.1++[]))=(33:Nat)) <|
    brK (c28.1 == i12)
     (sif (33≤List.length ([.int .i64 c28.1]++(c28.2.1++[]))) <|
     sif (List.length (List.take (32:Nat) (List.drop (1:Nat) ([D.int .i64 c28.1]++(c28.2.1++[]))))=(32:Nat)) <|
     sif (List.length (List.take (32:Nat) (List.drop (1:Nat) ([D.int .i64 c28.1]++(c28.2.1++[]))))=(32:Nat)) <|
     sif (32≤List.length (l13++[])) <|
     letN (IntKind.i64.wrap (i18+1)) fun n29=>
     zaz ([Lf.arr (32)]) (spl (0:Nat) (32:Nat) (l13++[]) (List.take (32:Nat) (List.drop (1:Nat) ([.int .i64 c28.1]++(c28.2.1++[]))))) fun c30=>
     again11 (((i12,c30,(x14,x15,x16),i17,n29,unit),U19,unit)))
     (letN (IntKind.i64.wrap (i18+1)) fun n31=>
     zaz ([Lf.arr (32)]) (l13++[]) fun c32=>
     again11 (((i12,c32,(x14,x15,x16),i17,n31,unit),U19,unit))))
    (sif (32≤List.length (l13++[])) <|
    sif (32≤List.length (l13++[])) <|
    zar (zae [.sl .lent (cut (0:Nat) (32:Nat) (l13++[]))]) fun r33=>
    zbn r33 fun l34=>
    sif (l34.length=l34.length) <|
    sif (List.all l34 D.free=true) <|
    some (Ans.mk (.tup [.sl .own l34,.int .i64 0]) [] [])))
   (((a1,c10,(a0,(0:Nat),l6.length),(↑(l6.length):Int),(0:Int),unit),T0,unit)))
theorem zqK (za4:Zs) (zae:Zp) (a0:Nat) (a1:Int) (T0:Tb):denS Tryz.prog (zay [(ID.disk_Disk_may,(.st [] [0] [(8225,false)] za4)),(ID.slices_Clone_byte_byte,(.pure [1] zae))]) zif [1,0] ID.disk_Disk_Read [.h 8225 a0 0,.int .i64 a1] [T0]=zgK za4 zae a0 a1 T0:=by kernel_rfl
theorem znl (a0:Nat) (a1:Int) (T0:Tb):zbP [.h 8225 a0 0,.int .i64 a1] [T0]=zgK za4 zae a0 a1 T0:=zqK za4 zae a0 a1 T0
def zgX:Ann:={ loops:=[],ks:=[(2496,false),(8225,false)] }
noncomputable def zbj:Zs:=denS Tryz.prog (zay [(ID.bench_Bench_may,(.st [] [0] [(2496,false)] zaD)),(ID.disk_Disk_Read,(.st [] [1,0] [(8225,false)] zbP))]) zgX [1,0] ID.bench_Bench_Read
theorem zkw:Sound Tryz.prog ID.bench_Bench_Read (.st [] [1,0] [(2496,false),(8225,false)] zbj):=za9 (zaA [zeY,znk]) zbg ⟨Tryz.f21,by kernel_rfl,by kernel_rfl,by kernel_rfl⟩
noncomputable def zlp:Fact Tryz.prog:=⟨ID.bench_Bench_Read,(.st [] [1,0] [(2496,false),(8225,false)] zbj),zkw⟩
noncomputable def zfP (zaD zbP:Zs) (a0:Nat) (a1 a2:Int) (T0 T1:Tb):Option Ans:=
 zar (zaD [.h 2496 a0 0,.int .i64 a1] [T0]) fun r1=>
 nilK r1.outs <|
 nilK r1.tbs <|
 asI .i64 r1.r fun i2=>
 brK (i2 != 0)
  (some (Ans.mk (.tup [.sl .own [],.int .i64 i2]) [] []))
  (getK T0 a0 fun d3=>
  getK d3 ((3:Nat)) fun d4=>
  zbn d4 fun l5=>
  getK T0 a0 fun d6=>
  getK d6 ((3:Nat)) fun d7=>
  zbn d7 fun l8=>
  sif (0≤a1) <|
  sif (a1.toNat < l5.length) <|
  getK T0 a0 fun d9=>
  getK d9 ((3:Nat)) fun d10=>
  zbn d10 fun l11=>
  getK l11 (0+a1.toNat) fun d12=>
  sif (D.isAgg d12=false) <|
  sif (D.width d12=(1:Nat)) <|
  sif (D.cell d12=true) <|
  zar (zbP [d12,.int .i64 a2] [T1]) fun r13=>
  nilK r13.outs <|
  nilK r13.tbs <|
  ze3 r13.r fun ts14=>
  zaz ([Lf.any,Lf.any]) ts14 fun c15=>
  zbn c15.1 fun l16=>
  asI .i64 c15.2.1 fun i17=>
  sif (l16.length=l16.length) <|
  sif (List.all l16 D.free=true) <|
  some (Ans.mk (.tup [.sl .own l16,.int .i64 i17]) [] []))
theorem zoE (zaD zbP:Zs) (a0:Nat) (a1 a2:Int) (T0 T1:Tb):denS Tryz.prog (zay [(ID.bench_Bench_may,(.st [] [0] [(2496,false)] zaD)),(ID.disk_Disk_Read,(.st [] [1,0] [(8225,false)] zbP))]) zgX [1,0] ID.bench_Bench_Read [.h 2496 a0 0,.int .i64 a1,.int .i64 a2] [T0,T1]=zfP zaD zbP a0 a1 a2 T0 T1:=by kernel_rfl
theorem zlq (a0:Nat) (a1 a2:Int) (T0 T1:Tb):zbj [.h 2496 a0 0,.int .i64 a1,.int .i64 a2] [T0,T1]=zfP zaD zbP a0 a1 a2 T0 T1:=zoE zaD zbP a0 a1 a2 T0 T1
def zuz:Ann:={ loops:=[] }
noncomputable def zcV:Zp:=denP Tryz.prog (zay [(ID.geom_Check,(.pure [0] zaC))]) zuz [0] ID.row_in
theorem zx2:Sound Tryz.prog ID.row_in (.pure [0] zcV):=zao (zaA [zey]) zbg ⟨Tryz.f100,by kernel_rfl,by kernel_rfl,by kernel_rfl⟩
noncomputable def zsn:Fact Tryz.prog:=⟨ID.row_in,(.pure [0] zcV),zx2⟩
noncomputable def zv5 (zaC:Zp) (a0_0 a0_1 a0_2 a1:Int):Option D:=
 zar (zaC [.agg [.int .i64 a0_0,.int .i64 a0_1,.int .i64 a0_2]]) fun r1=>
 asI .i64 r1 fun i2=>
 brK (i2 == 0)
  (brK (decide (a1≥0))
   (some (.bool (decide (a1 < 16))))
   (some (.bool false)))
  (some (.bool false))
theorem zFa (zaC:Zp) (a0_0 a0_1 a0_2 a1:Int):denP Tryz.prog (zay [(ID.geom_Check,(.pure [0] zaC))]) zuz [0] ID.row_in [.agg [.int .i64 a0_0,.int .i64 a0_1,.int .i64 a0_2],.int .i64 a1]=zv5 zaC a0_0 a0_1 a0_2 a1:=by kernel_rfl
theorem zzm (a0_0 a0_1 a0_2 a1:Int):zcV [.agg [.int .i64 a0_0,.int .i64 a0_1,.int .i64 a0_2],.int .i64 a1]=zv5 zaC a0_0 a0_1 a0_2 a1:=zFa zaC a0_0 a0_1 a0_2 a1
def zjd:Ann:={ loops:=[(0,dd 3 (.own 1::dd 2 [.val (.cell .lent),.val (.cell (.int .i64)),.val (.cell (.int .i64))]))] }
noncomputable def zbL:Zp:=denP Tryz.prog (zay []) zjd [1] ID.erase_Missing
theorem znm:Sound Tryz.prog ID.erase_Missing (.pure [1] zbL):=zao (zaA []) zbg ⟨Tryz.f133,by kernel_rfl,by kernel_rfl,by kernel_rfl⟩
noncomputable def zoF:Fact Tryz.prog:=⟨ID.erase_Missing,(.pure [1] zbL),znm⟩
noncomputable def zhI (a0:List D):Option D:=
 zb2 (α:=(List D×List D×Int×Int×PUnit)×PUnit) (fun again1 ((l2,(l3,(i4,(i5,_)))),_)=>
  brK (decide (i5 < i4))
   (sif (0≤i5) <|
   getK l3 (i5.toNat) fun d6=>
   asSl d6 fun t7 l8=>
   brK ((↑(l8.length):Int) == 0)
    (sif (l2.length+1≤4294967296) <|
    sif (l2.length=l2.length) <|
    letN (IntKind.i64.wrap (i5+1)) fun n9=>
    sif (l2.length+1=List.length (l2++[D.int .i64 i5])) <|
    again1 (((l2++[.int .i64 i5],l3,i4,n9,unit),unit)))
    (letN (IntKind.i64.wrap (i5+1)) fun n10=>
    sif (l2.length=l2.length) <|
    again1 (((l2,l3,i4,n10,unit),unit))))
   (sif (l2.length=l2.length) <|
   sif (List.all l2 D.free=true) <|
   some (.sl .own l2)))
  ((([],a0,(↑(a0.length):Int),(0:Int),unit),unit))
theorem zso (tga0:Tag) (a0:List D):denP Tryz.prog (zay []) zjd [1] ID.erase_Missing [.sl tga0 a0]=zhI (D.lentL a0):=by kernel_rfl
theorem zoG (tga0:Tag) (a0:List D):zbL [.sl tga0 a0]=zhI (D.lentL a0):=zso tga0 a0
def zkc:Ann:={ loops:=[],hints:=[(1,.at1 (.int .i64))] }
noncomputable def zaM:Zp:=denP Tryz.prog (zay []) zkc [0] ID.erase_fits_1
theorem zoH:Sound Tryz.prog ID.erase_fits_1 (.pure [0] zaM):=zao (zaA []) zbg ⟨Tryz.f153,by kernel_rfl,by kernel_rfl,by kernel_rfl⟩
noncomputable def zje:Fact Tryz.prog:=⟨ID.erase_fits_1,(.pure [0] zaM),zoH⟩
noncomputable def zit (a0:List D) (c0:Int):Option D:=
 brK (decide ((↑(a0.length):Int) > 0))
  (some (.bool ((↑(a0.length):Int) != c0)))
  (some (.bool false))
theorem ztl (tga0:Tag) (a0:List D) (c0:Int):denP Tryz.prog (zay []) zkc [0] ID.erase_fits_1 [.sl tga0 a0,.at_ (.int .i64 c0)]=zit (D.lentL a0) c0:=by kernel_rfl
theorem zpH (tga0:Tag) (a0:List D) (c0:Int):zaM [.sl tga0 a0,.at_ (.int .i64 c0)]=zit (D.lentL a0) c0:=ztl tga0 a0 c0
def zjf:Ann:={ loops:=[] }
noncomputable def zaw:Zp:=denP Tryz.prog (zay []) zjf [0] ID.row_sectors_1
theorem znn:Sound Tryz.prog ID.row_sectors_1 (.pure [0] zaw):=zao (zaA []) zbg ⟨Tryz.f139,by kernel_rfl,by kernel_rfl,by kernel_rfl⟩
noncomputable def zfQ:Fact Tryz.prog:=⟨ID.row_sectors_1,(.pure [0] zaw),znn⟩
noncomputable def zhJ (a0:List D):Option D:=
 some (.bool ((↑(a0.length):Int) != 32))
theorem zsp (tga0:Tag) (a0:List D):denP Tryz.prog (zay []) zjf [0] ID.row_sectors_1 [.sl tga0 a0]=zhJ (D.lentL a0):=by kernel_rfl
theorem zoI (tga0:Tag) (a0:List D):zaw [.sl tga0 a0]=zhJ (D.lentL a0):=zsp tga0 a0
def zno:Ann:={ loops:=[] }
noncomputable def zaE:Zp:=denP Tryz.prog (zay []) zno [0] ID.record_Decode_1
theorem zlr:Sound Tryz.prog ID.record_Decode_1 (.pure [0] zaE):=zao (zaA []) zbg ⟨Tryz.f108,by kernel_rfl,by kernel_rfl,by kernel_rfl⟩
noncomputable def zgY:Fact Tryz.prog:=⟨ID.record_Decode_1,(.pure [0] zaE),zlr⟩
def zcR:List (Nat×Ann):=[(153,{ loops:=[(0,[.val (.cell .lent),.val (.fn1 (153:FuncId) (.int .i64)),.dead,.dead,.dead,.dead,.dead,.val (.cell (.int .i64)),.val (.cell (.int .i64))])] }),(139,{ loops:=[(0,[.val (.cell .lent),.fnc 139,.dead,.dead,.dead,.dead,.dead,.val (.cell (.int .i64)),.val (.cell (.int .i64))])] }),(108,{ loops:=[(0,[.val (.cell .lent),.fnc 108,.dead,.dead,.dead,.dead,.dead,.val (.cell (.int .i64)),.val (.cell (.int .i64))])] })]
noncomputable def zaj:Zp:=denA Tryz.prog (zay [(ID.erase_fits_1,(.pure [0] zaM)),(ID.row_sectors_1,(.pure [0] zaw)),(ID.record_Decode_1,(.pure [0] zaE))]) zcR [0] ID.slices_IndexFunc_byte_byte
theorem zfV:Sound Tryz.prog ID.slices_IndexFunc_byte_byte (.pure [0] zaj):=zuo (zaA [zje,zfQ,zgY]) zbg ⟨Tryz.f143,by kernel_rfl,by kernel_rfl,by kernel_rfl⟩
noncomputable def zgj:Fact Tryz.prog:=⟨ID.slices_IndexFunc_byte_byte,(.pure [0] zaj),zfV⟩
noncomputable def zcu (zaM zaw zaE:Zp) (a0:List D) (c0:Int):Option D:=
 zb2 (α:=(List D×Int×Int×Int×PUnit)×PUnit) (fun again1 ((l2,(i3,(i4,(i5,_)))),_)=>
  brK (decide (i5 < i4))
   (sif (0≤i5) <|
   getK l2 (i5.toNat) fun d6=>
   asSl d6 fun t7 l8=>
   zar (zaM [.sl t7 l8,D.at_ (.int .i64 i3)]) fun r9=>
   asB r9 fun b10=>
   brK b10
    (some (.int .i64 i5))
    (letN (IntKind.i64.wrap (i5+1)) fun n11=>
    again1 (((l2,i3,i4,n11,unit),unit))))
   (some (.int .i64 (-1))))
  (((a0,c0,(↑(a0.length):Int),(0:Int),unit),unit))
theorem zfw (zaM zaw zaE:Zp) (tga0:Tag) (a0:List D) (c0:Int):denA Tryz.prog (zay [(ID.erase_fits_1,(.pure [0] zaM)),(ID.row_sectors_1,(.pure [0] zaw)),(ID.record_Decode_1,(.pure [0] zaE))]) zcR [0] ID.slices_IndexFunc_byte_byte [.sl tga0 a0,.fn 153 [] [.at_ (.int .i64 c0)]]=zcu zaM zaw zaE (D.lentL a0) c0:=by kernel_rfl
theorem zeZ (tga0:Tag) (a0:List D) (c0:Int):zaj [.sl tga0 a0,.fn 153 [] [.at_ (.int .i64 c0)]]=zcu zaM zaw zaE (D.lentL a0) c0:=zfw zaM zaw zaE tga0 a0 c0
noncomputable def zcf (zaM zaw zaE:Zp) (a0:List D):Option D:=
 zb2 (α:=(List D×Int×Int×PUnit)×PUnit) (fun again1 ((l2,(i3,(i4,_))),_)=>
  brK (decide (i4 < i3))
   (sif (0≤i4) <|
   getK l2 (i4.toNat) fun d5=>
   asSl d5 fun t6 l7=>
   zar (zaw [.sl t6 l7]) fun r8=>
   asB r8 fun b9=>
   brK b9
    (some (.int .i64 i4))
    (letN (IntKind.i64.wrap (i4+1)) fun n10=>
    again1 (((l2,i3,n10,unit),unit))))
   (some (.int .i64 (-1))))
  (((a0,(↑(a0.length):Int),(0:Int),unit),unit))
theorem ze0 (zaM zaw zaE:Zp) (tga0:Tag) (a0:List D):denA Tryz.prog (zay [(ID.erase_fits_1,(.pure [0] zaM)),(ID.row_sectors_1,(.pure [0] zaw)),(ID.record_Decode_1,(.pure [0] zaE))]) zcR [0] ID.slices_IndexFunc_byte_byte [.sl tga0 a0,.fn 139 [] []]=zcf zaM zaw zaE (D.lentL a0):=by kernel_rfl
theorem zem (tga0:Tag) (a0:List D):zaj [.sl tga0 a0,.fn 139 [] []]=zcf zaM zaw zaE (D.lentL a0):=ze0 zaM zaw zaE tga0 a0
def zcA:Ann:={ loops:=[] }
noncomputable def zaf:Zp:=denP Tryz.prog (zay [(ID.slices_IndexFunc_byte_byte,(.pure [0] zaj)),(ID.erase_fits_1,(.pure [0] zaM)),(ID.row_sectors_1,(.pure [0] zaw)),(ID.record_Decode_1,(.pure [0] zaE))]) zcA [0] ID.slices_ContainsFunc_byte_byte
theorem zfm:Sound Tryz.prog ID.slices_ContainsFunc_byte_byte (.pure [0] zaf):=zao (zaA [zgj,zje,zfQ,zgY]) zbg ⟨Tryz.f107,by kernel_rfl,by kernel_rfl,by kernel_rfl⟩
noncomputable def zdv:Fact Tryz.prog:=⟨ID.slices_ContainsFunc_byte_byte,(.pure [0] zaf),zfm⟩
noncomputable def zcg (zaj zaM zaw zaE:Zp) (a0:List D) (c0:Int):Option D:=
 zar (zaj [.sl .lent a0,.fn (153:FuncId) [] [D.at_ (.int .i64 c0)]]) fun r1=>
 asI .i64 r1 fun i2=>
 some (.bool (decide (i2≥0)))
theorem ze1 (zaj zaM zaw zaE:Zp) (tga0:Tag) (a0:List D) (c0:Int):denP Tryz.prog (zay [(ID.slices_IndexFunc_byte_byte,(.pure [0] zaj)),(ID.erase_fits_1,(.pure [0] zaM)),(ID.row_sectors_1,(.pure [0] zaw)),(ID.record_Decode_1,(.pure [0] zaE))]) zcA [0] ID.slices_ContainsFunc_byte_byte [.sl tga0 a0,.fn 153 [] [.at_ (.int .i64 c0)]]=zcg zaj zaM zaw zaE (D.lentL a0) c0:=by kernel_rfl
theorem zen (tga0:Tag) (a0:List D) (c0:Int):zaf [.sl tga0 a0,.fn 153 [] [.at_ (.int .i64 c0)]]=zcg zaj zaM zaw zaE (D.lentL a0) c0:=ze1 zaj zaM zaw zaE tga0 a0 c0
noncomputable def zb0 (zaj zaM zaw zaE:Zp) (a0:List D):Option D:=
 zar (zaj [.sl .lent a0,.fn (139:FuncId) [] []]) fun r1=>
 asI .i64 r1 fun i2=>
 some (.bool (decide (i2≥0)))
theorem zeo (zaj zaM zaw zaE:Zp) (tga0:Tag) (a0:List D):denP Tryz.prog (zay [(ID.slices_IndexFunc_byte_byte,(.pure [0] zaj)),(ID.erase_fits_1,(.pure [0] zaM)),(ID.row_sectors_1,(.pure [0] zaw)),(ID.record_Decode_1,(.pure [0] zaE))]) zcA [0] ID.slices_ContainsFunc_byte_byte [.sl tga0 a0,.fn 139 [] []]=zb0 zaj zaM zaw zaE (D.lentL a0):=by kernel_rfl
theorem zd3 (tga0:Tag) (a0:List D):zaf [.sl tga0 a0,.fn 139 [] []]=zb0 zaj zaM zaw zaE (D.lentL a0):=zeo zaj zaM zaw zaE tga0 a0
def zmN:Ann:={ loops:=[] }
noncomputable def zci:Zp:=denP Tryz.prog (zay [(ID.slices_ContainsFunc_byte_byte,(.pure [0] zaf))]) zmN [0] ID.erase_fits
theorem zqL:Sound Tryz.prog ID.erase_fits (.pure [0] zci):=zao (zaA [zdv]) zbg ⟨Tryz.f134,by kernel_rfl,by kernel_rfl,by kernel_rfl⟩
noncomputable def zsq:Fact Tryz.prog:=⟨ID.erase_fits,(.pure [0] zci),zqL⟩
noncomputable def zls (zaf:Zp) (a0:Int) (a1:List D):Option D:=
 zar (zaf [.sl .lent a1,.fn (153:Nat) [] [D.at_ (.int .i64 a0)]]) fun r1=>
 asB r1 fun b2=>
 some (.bool !b2)
theorem zx3 (zaf:Zp) (tga1:Tag) (a0:Int) (a1:List D):denP Tryz.prog (zay [(ID.slices_ContainsFunc_byte_byte,(.pure [0] zaf))]) zmN [0] ID.erase_fits [.int .i64 a0,.sl tga1 a1]=zls zaf a0 (D.lentL a1):=by kernel_rfl
theorem zsr (tga1:Tag) (a0:Int) (a1:List D):zci [.int .i64 a0,.sl tga1 a1]=zls zaf a0 (D.lentL a1):=zx3 zaf tga1 a0 a1
def zkd:Ann:={ loops:=[(0,.val (.cell (.int .i64))::dd 4 (.own 1::dd 3 [.val (.cell .lent),.val (.cell (.int .i64)),.val (.cell (.int .i64))]))] }
noncomputable def zbY:Zp:=denP Tryz.prog (zay []) zkd [1] ID.erase_filled
theorem zoJ:Sound Tryz.prog ID.erase_filled (.pure [1] zbY):=zao (zaA []) zbg ⟨Tryz.f135,by kernel_rfl,by kernel_rfl,by kernel_rfl⟩
noncomputable def zpI:Fact Tryz.prog:=⟨ID.erase_filled,(.pure [1] zbY),zoJ⟩
noncomputable def ziu (a0:Int) (a1:List D):Option D:=
 zb2 (α:=(Int×List D×List D×Int×Int×PUnit)×PUnit) (fun again1 ((i2,(l3,(l4,(i5,(i6,_))))),_)=>
  brK (decide (i6 < i5))
   (sif (0≤i6) <|
   getK l4 (i6.toNat) fun d7=>
   asSl d7 fun t8 l9=>
   sif (0≤i2) <|
   sif (i2=i2) <|
   sif (i2*1≤140737488355328) <|
   sif (i2≤140737488355328) <|
   sif (0+i2.toNat≤List.length (List.replicate (i2.toNat) (D.int .u8 0))) <|
   sif (cells l9=true) <|
   sif (0+i2.toNat≤List.length ([]++List.take (i2.toNat) l9++List.drop (0+List.length (List.take (i2.toNat) l9)) (List.replicate (i2.toNat) (D.int .u8 0)))) <|
   sif (l3.length+1≤4294967296) <|
   sif (l3.length=l3.length) <|
   letN (IntKind.i64.wrap (i6+1)) fun n10=>
   sif (l3.length+1=List.length (l3++[D.sl .fresh (cut (0:Nat) (i2.toNat) ([]++List.take (i2.toNat) l9++List.drop (0+List.length (List.take (i2.toNat) l9)) (List.replicate (i2.toNat) (D.int .u8 0))))])) <|
   again1 (((i2,l3++[.sl .fresh (cut (0:Nat) (i2.toNat) ([]++List.take (i2.toNat) l9++List.drop (0+List.length (List.take (i2.toNat) l9)) (List.replicate (i2.toNat) (.int .u8 0))))],l4,i5,n10,unit),unit)))
   (sif (l3.length=l3.length) <|
   sif (List.all l3 D.free=true) <|
   some (.sl .own l3)))
  (((a0,[],a1,(↑(a1.length):Int),(0:Int),unit),unit))
theorem ztm (tga1:Tag) (a0:Int) (a1:List D):denP Tryz.prog (zay []) zkd [1] ID.erase_filled [.int .i64 a0,.sl tga1 a1]=ziu a0 (D.lentL a1):=by kernel_rfl
theorem zpJ (tga1:Tag) (a0:Int) (a1:List D):zbY [.int .i64 a0,.sl tga1 a1]=ziu a0 (D.lentL a1):=ztm tga1 a0 a1
def zoK:Ann:={ loops:=[] }
noncomputable def za8:Zp:=denP Tryz.prog (zay []) zoK [0] ID.gf_double
theorem zss:Sound Tryz.prog ID.gf_double (.pure [0] za8):=zao (zaA []) zbg ⟨Tryz.f156,by kernel_rfl,by kernel_rfl,by kernel_rfl⟩
noncomputable def ziv:Fact Tryz.prog:=⟨ID.gf_double,(.pure [0] za8),zss⟩
noncomputable def znp (a0:Int):Option D:=
 brK (decide (a0≥128))
  (letN (IntKind.u8.wrap (a0*2)) fun n1=>
  letN (bits BinOp.xor IntKind.u8 n1 (29:Int)) fun n2=>
  some (.int .u8 n2))
  (letN (IntKind.u8.wrap (a0*2)) fun n3=>
  some (.int .u8 n3))
theorem zzn (a0:Int):denP Tryz.prog (zay []) zoK [0] ID.gf_double [.int .u8 a0]=znp a0:=by kernel_rfl
theorem ztn (a0:Int):za8 [.int .u8 a0]=znp a0:=zzn a0
def zuA:Ann:={ loops:=[(0,.val (.cell (.int .u8))::.val (.cell (.int .u8))::dd 3 [.val (.cell (.int .u8))])] }
noncomputable def ze9:Zp:=denP Tryz.prog (zay [(ID.gf_double,(.pure [0] za8))]) zuA [0] ID.gf_Mul
theorem zx4:Sound Tryz.prog ID.gf_Mul (.pure [0] ze9):=zao (zaA [ziv]) zbg ⟨Tryz.f160,by kernel_rfl,by kernel_rfl,by kernel_rfl⟩
noncomputable def zzo:Fact Tryz.prog:=⟨ID.gf_Mul,(.pure [0] ze9),zx4⟩
noncomputable def zv6 (za8:Zp) (a0 a1:Int):Option D:=
 zb2 (α:=(Int×Int×Int×PUnit)×PUnit) (fun again1 ((i2,(i3,(i4,_))),_)=>
  brK (decide (i3 > 0))
   (letN (bits BinOp.and IntKind.u8 i3 (1:Int)) fun n5=>
   brK (n5 == 1)
    (letN (bits BinOp.xor IntKind.u8 i4 i2) fun n6=>
    zar (za8 [.int .u8 i2]) fun r7=>
    asI .u8 r7 fun i8=>
    letN (Int.fdiv i3 (2:Int)) fun n9=>
    again1 (((i8,n9,n6,unit),unit)))
    (zar (za8 [.int .u8 i2]) fun r10=>
    asI .u8 r10 fun i11=>
    letN (Int.fdiv i3 (2:Int)) fun n12=>
    again1 (((i11,n12,i4,unit),unit))))
   (some (.int .u8 i4)))
  (((a0,a1,(0:Int),unit),unit))
theorem zFb (za8:Zp) (a0 a1:Int):denP Tryz.prog (zay [(ID.gf_double,(.pure [0] za8))]) zuA [0] ID.gf_Mul [.int .u8 a0,.int .u8 a1]=zv6 za8 a0 a1:=by kernel_rfl
theorem zzp (a0 a1:Int):ze9 [.int .u8 a0,.int .u8 a1]=zv6 za8 a0 a1:=zFb za8 a0 a1
def zmO:Ann:={ loops:=[(0,.dead::.val (.cell (.int .u8))::dd 3 (.own 1::dd 2 [.val (.cell .lent),.val (.cell (.int .i64)),.val (.cell (.int .i64))]))] }
noncomputable def zaQ:Zp:=denP Tryz.prog (zay [(ID.gf_Mul,(.pure [0] ze9))]) zmO [1] ID.synd_Scale
theorem zqM:Sound Tryz.prog ID.synd_Scale (.pure [1] zaQ):=zao (zaA [zzo]) zbg ⟨Tryz.f155,by kernel_rfl,by kernel_rfl,by kernel_rfl⟩
noncomputable def zhK:Fact Tryz.prog:=⟨ID.synd_Scale,(.pure [1] zaQ),zqM⟩
noncomputable def zlt (ze9:Zp) (a0:List D) (a1:Int):Option D:=
 zb2 (α:=(Int×List D×List D×Int×Int×PUnit)×PUnit) (fun again1 ((i2,(l3,(l4,(i5,(i6,_))))),_)=>
  brK (decide (i6 < i5))
   (sif (0≤i6) <|
   getK l4 (i6.toNat) fun d7=>
   asI .u8 d7 fun i8=>
   zar (ze9 [.int .u8 i8,.int .u8 i2]) fun r9=>
   asI .u8 r9 fun i10=>
   sif (l3.length+1≤4294967296) <|
   sif (l3.length=l3.length) <|
   letN (IntKind.i64.wrap (i6+1)) fun n11=>
   sif (l3.length+1=List.length (l3++[D.int .u8 i10])) <|
   again1 (((i2,l3++[.int .u8 i10],l4,i5,n11,unit),unit)))
   (sif (l3.length=l3.length) <|
   sif (List.all l3 D.free=true) <|
   some (.sl .own l3)))
  (((a1,[],a0,(↑(a0.length):Int),(0:Int),unit),unit))
theorem zx5 (ze9:Zp) (tga0:Tag) (a0:List D) (a1:Int):denP Tryz.prog (zay [(ID.gf_Mul,(.pure [0] ze9))]) zmO [1] ID.synd_Scale [.sl tga0 a0,.int .u8 a1]=zlt ze9 (D.lentL a0) a1:=by kernel_rfl
theorem zst (tga0:Tag) (a0:List D) (a1:Int):zaQ [.sl tga0 a0,.int .u8 a1]=zlt ze9 (D.lentL a0) a1:=zx5 ze9 tga0 a0 a1
def zqv:Ann:={ loops:=[(1,.dead::.val (.cell .lent)::dd 3 (.own 1::dd 7 [.val (.cell .lent),.val (.cell (.int .i64)),.val (.cell (.int .i64))]))] }
noncomputable def zaS:Zp:=denP Tryz.prog (zay []) zqv [1] ID.synd_Add
theorem zto:Sound Tryz.prog ID.synd_Add (.pure [1] zaS):=zao (zaA []) zbg ⟨Tryz.f137,by kernel_rfl,by kernel_rfl,by kernel_rfl⟩
noncomputable def zg8:Fact Tryz.prog:=⟨ID.synd_Add,(.pure [1] zaS),zto⟩
noncomputable def zpK (a0 a1:List D):Option D:=
 brK ((↑(a0.length):Int) != (↑(a1.length):Int))
  (some (.sl .own []))
  (zb2 (α:=(List D×List D×List D×Int×Int×PUnit)×PUnit) (fun again1 ((l2,(l3,(l4,(i5,(i6,_))))),_)=>
   brK (decide (i6 < i5))
    (sif (0≤i6) <|
    getK l4 (i6.toNat) fun d7=>
    asI .u8 d7 fun i8=>
    sif (0≤i6) <|
    getK l2 (i6.toNat) fun d9=>
    asI .u8 d9 fun i10=>
    letN (bits BinOp.xor IntKind.u8 i8 i10) fun n11=>
    sif (l3.length+1≤4294967296) <|
    sif (l3.length=l3.length) <|
    letN (IntKind.i64.wrap (i6+1)) fun n12=>
    sif (l3.length+1=List.length (l3++[D.int .u8 n11])) <|
    again1 (((l2,l3++[.int .u8 n11],l4,i5,n12,unit),unit)))
    (sif (l3.length=l3.length) <|
    sif (List.all l3 D.free=true) <|
    some (.sl .own l3)))
   (((a1,[],a0,(↑(a0.length):Int),(0:Int),unit),unit)))
theorem zBx (tga0 tga1:Tag) (a0 a1:List D):denP Tryz.prog (zay []) zqv [1] ID.synd_Add [.sl tga0 a0,.sl tga1 a1]=zpK (D.lentL a0) (D.lentL a1):=by kernel_rfl
theorem zv7 (tga0 tga1:Tag) (a0 a1:List D):zaS [.sl tga0 a0,.sl tga1 a1]=zpK (D.lentL a0) (D.lentL a1):=zBx tga0 tga1 a0 a1
def zuB:Ann:={ loops:=[(0,dd 3 (.val (.cell (.int .u8))::dd 3 [.val (.cell (.int .i64)),.val (.cell (.int .i64))]))] }
noncomputable def zaZ:Zp:=denP Tryz.prog (zay [(ID.gf_double,(.pure [0] za8))]) zuB [0] ID.gf_Pow
theorem zx6:Sound Tryz.prog ID.gf_Pow (.pure [0] zaZ):=zao (zaA [ziv]) zbg ⟨Tryz.f142,by kernel_rfl,by kernel_rfl,by kernel_rfl⟩
noncomputable def zhL:Fact Tryz.prog:=⟨ID.gf_Pow,(.pure [0] zaZ),zx6⟩
noncomputable def zra (za8:Zp) (a0:Int):Option D:=
 letN (Int.tmod a0 (255:Int)) fun n1=>
 letN (IntKind.i64.wrap (n1+255)) fun n2=>
 letN (Int.tmod n2 (255:Int)) fun n3=>
 zb2 (α:=(Int×Int×Int×PUnit)×PUnit) (fun again4 ((i5,(i6,(i7,_))),_)=>
  brK (decide (i7 < i6))
   (zar (za8 [.int .u8 i5]) fun r8=>
   asI .u8 r8 fun i9=>
   letN (IntKind.i64.wrap (i7+1)) fun n10=>
   again4 (((i9,i6,n10,unit),unit)))
   (some (.int .u8 i5)))
  ((((1:Int),n3,(0:Int),unit),unit))
theorem zFc (za8:Zp) (a0:Int):denP Tryz.prog (zay [(ID.gf_double,(.pure [0] za8))]) zuB [0] ID.gf_Pow [.int .i64 a0]=zra za8 a0:=by kernel_rfl
theorem zsu (a0:Int):zaZ [.int .i64 a0]=zra za8 a0:=zFc za8 a0
def zqw:Ann:={ loops:=[] }
noncomputable def zbG:Zp:=denP Tryz.prog (zay []) zqw [0] ID.synd_P_1
theorem ztp:Sound Tryz.prog ID.synd_P_1 (.pure [0] zbG):=zao (zaA []) zbg ⟨Tryz.f141,by kernel_rfl,by kernel_rfl,by kernel_rfl⟩
noncomputable def zoL:Fact Tryz.prog:=⟨ID.synd_P_1,(.pure [0] zbG),ztp⟩
noncomputable def zuC (a0:Int):Option D:=
 some (.int .u8 1)
theorem zBy (a0:Int):denP Tryz.prog (zay []) zqw [0] ID.synd_P_1 [.int .i64 a0]=zuC a0:=by kernel_rfl
theorem zv8 (a0:Int):zbG [.int .i64 a0]=zuC a0:=zBy a0
def zlu:List (Nat×Ann):=[(141,{ loops:=[(1,[.dead,.fnc 141,.dead,.dead,.dead,.own 1,.dead,.dead,.dead,.dead,.dead,.dead,.dead,.dead,.dead,.dead,.val (.cell .lent),.val (.cell (.int .i64)),.val (.cell (.int .i64))])] }),(142,{ loops:=[(1,[.dead,.fnc 142,.dead,.dead,.dead,.own 1,.dead,.dead,.dead,.dead,.dead,.dead,.dead,.dead,.dead,.dead,.val (.cell .lent),.val (.cell (.int .i64)),.val (.cell (.int .i64))])] })]
noncomputable def zbU:Zp:=denA Tryz.prog (zay [(ID.synd_Scale,(.pure [1] zaQ)),(ID.synd_Add,(.pure [1] zaS)),(ID.gf_Pow,(.pure [0] zaZ)),(ID.synd_P_1,(.pure [0] zbG))]) zlu [1] ID.synd_sum
theorem ztq:Sound Tryz.prog ID.synd_sum (.pure [1] zbU):=zuo (zaA [zhK,zg8,zhL,zoL]) zbg ⟨Tryz.f140,by kernel_rfl,by kernel_rfl,by kernel_rfl⟩
noncomputable def zoM:Fact Tryz.prog:=⟨ID.synd_sum,(.pure [1] zbU),ztq⟩
noncomputable def zjV (zaQ zaS zaZ zbG:Zp) (a0:List D):Option D:=
 brK ((↑(a0.length):Int) == 0)
  (some (.sl .own []))
  (getK a0 ((0:Nat)) fun d1=>
  asSl d1 fun t2 l3=>
  sif ((↑(l3.length):Int)=(↑(l3.length):Int)) <|
  sif ((↑(l3.length):Int)*1≤140737488355328) <|
  sif ((↑(l3.length):Int)≤140737488355328) <|
  sif (Int.toNat (↑(l3.length):Int)=List.length (List.replicate (Int.toNat (↑(l3.length):Int)) (D.int .u8 0))) <|
  zb2 (α:=(List D×List D×Int×Int×PUnit)×PUnit) (fun again4 ((l5,(l6,(i7,(i8,_)))),_)=>
   brK (decide (i8 < i7))
    (sif (0≤i8) <|
    getK l6 (i8.toNat) fun d9=>
    asSl d9 fun t10 l11=>
    sif (0+l5.length≤l5.length) <|
    brK ((↑(l11.length):Int) != (↑(l5.length):Int))
     (some (.sl .own []))
     (zar (zbG [.int .i64 i8]) fun r12=>
     asI .u8 r12 fun i13=>
     zar (zaQ [.sl t10 l11,.int .u8 i13]) fun r14=>
     zbn r14 fun l15=>
     sif (0+l5.length≤l5.length) <|
     sif (0+l15.length≤l15.length) <|
     zar (zaS [.sl .lent (cut 0 l5.length l5),.sl .lent (cut 0 l15.length l15)]) fun r16=>
     zbn r16 fun l17=>
     letN (IntKind.i64.wrap (i8+1)) fun n18=>
     sif (l17.length=l17.length) <|
     again4 (((l17,l6,i7,n18,unit),unit))))
    (sif (l5.length=l5.length) <|
    sif (List.all l5 D.free=true) <|
    some (.sl .own l5)))
   (((List.replicate (Int.toNat (↑(l3.length):Int)) (.int .u8 0),a0,(↑(a0.length):Int),(0:Int),unit),unit)))
theorem zv9 (zaQ zaS zaZ zbG:Zp) (tga0:Tag) (a0:List D):denA Tryz.prog (zay [(ID.synd_Scale,(.pure [1] zaQ)),(ID.synd_Add,(.pure [1] zaS)),(ID.gf_Pow,(.pure [0] zaZ)),(ID.synd_P_1,(.pure [0] zbG))]) zlu [1] ID.synd_sum [.sl tga0 a0,.fn 141 [] []]=zjV zaQ zaS zaZ zbG (D.lentL a0):=by kernel_rfl
theorem zqN (tga0:Tag) (a0:List D):zbU [.sl tga0 a0,.fn 141 [] []]=zjV zaQ zaS zaZ zbG (D.lentL a0):=zv9 zaQ zaS zaZ zbG tga0 a0
noncomputable def zjW (zaQ zaS zaZ zbG:Zp) (a0:List D):Option D:=
 brK ((↑(a0.length):Int) == 0)
  (some (.sl .own []))
  (getK a0 ((0:Nat)) fun d1=>
  asSl d1 fun t2 l3=>
  sif ((↑(l3.length):Int)=(↑(l3.length):Int)) <|
  sif ((↑(l3.length):Int)*1≤140737488355328) <|
  sif ((↑(l3.length):Int)≤140737488355328) <|
  sif (Int.toNat (↑(l3.length):Int)=List.length (List.replicate (Int.toNat (↑(l3.length):Int)) (D.int .u8 0))) <|
  zb2 (α:=(List D×List D×Int×Int×PUnit)×PUnit) (fun again4 ((l5,(l6,(i7,(i8,_)))),_)=>
   brK (decide (i8 < i7))
    (sif (0≤i8) <|
    getK l6 (i8.toNat) fun d9=>
    asSl d9 fun t10 l11=>
    sif (0+l5.length≤l5.length) <|
    brK ((↑(l11.length):Int) != (↑(l5.length):Int))
     (some (.sl .own []))
     (zar (zaZ [.int .i64 i8]) fun r12=>
     asI .u8 r12 fun i13=>
     zar (zaQ [.sl t10 l11,.int .u8 i13]) fun r14=>
     zbn r14 fun l15=>
     sif (0+l5.length≤l5.length) <|
     sif (0+l15.length≤l15.length) <|
     zar (zaS [.sl .lent (cut 0 l5.length l5),.sl .lent (cut 0 l15.length l15)]) fun r16=>
     zbn r16 fun l17=>
     letN (IntKind.i64.wrap (i8+1)) fun n18=>
     sif (l17.length=l17.length) <|
     again4 (((l17,l6,i7,n18,unit),unit))))
    (sif (l5.length=l5.length) <|
    sif (List.all l5 D.free=true) <|
    some (.sl .own l5)))
   (((List.replicate (Int.toNat (↑(l3.length):Int)) (.int .u8 0),a0,(↑(a0.length):Int),(0:Int),unit),unit)))
theorem zwa (zaQ zaS zaZ zbG:Zp) (tga0:Tag) (a0:List D):denA Tryz.prog (zay [(ID.synd_Scale,(.pure [1] zaQ)),(ID.synd_Add,(.pure [1] zaS)),(ID.gf_Pow,(.pure [0] zaZ)),(ID.synd_P_1,(.pure [0] zbG))]) zlu [1] ID.synd_sum [.sl tga0 a0,.fn 142 [] []]=zjW zaQ zaS zaZ zbG (D.lentL a0):=by kernel_rfl
theorem zqO (tga0:Tag) (a0:List D):zbU [.sl tga0 a0,.fn 142 [] []]=zjW zaQ zaS zaZ zbG (D.lentL a0):=zwa zaQ zaS zaZ zbG tga0 a0
def zuD:Ann:={ loops:=[] }
noncomputable def zb3:Zp:=denP Tryz.prog (zay [(ID.synd_sum,(.pure [1] zbU)),(ID.synd_P_1,(.pure [0] zbG))]) zuD [1] ID.synd_P
theorem zx7:Sound Tryz.prog ID.synd_P (.pure [1] zb3):=zao (zaA [zoM,zoL]) zbg ⟨Tryz.f105,by kernel_rfl,by kernel_rfl,by kernel_rfl⟩
noncomputable def znq:Fact Tryz.prog:=⟨ID.synd_P,(.pure [1] zb3),zx7⟩
noncomputable def zwb (zbU zbG:Zp) (a0:List D):Option D:=
 zar (zbU [.sl .lent a0,.fn (141:Nat) [] []]) fun r1=>
 zbn r1 fun l2=>
 sif (l2.length=l2.length) <|
 sif (List.all l2 D.free=true) <|
 some (.sl .own l2)
theorem zFd (zbU zbG:Zp) (tga0:Tag) (a0:List D):denP Tryz.prog (zay [(ID.synd_sum,(.pure [1] zbU)),(ID.synd_P_1,(.pure [0] zbG))]) zuD [1] ID.synd_P [.sl tga0 a0]=zwb zbU zbG (D.lentL a0):=by kernel_rfl
theorem zzq (tga0:Tag) (a0:List D):zb3 [.sl tga0 a0]=zwb zbU zbG (D.lentL a0):=zFd zbU zbG tga0 a0
def zuE:Ann:={ loops:=[] }
noncomputable def zb4:Zp:=denP Tryz.prog (zay [(ID.synd_sum,(.pure [1] zbU)),(ID.gf_Pow,(.pure [0] zaZ))]) zuE [1] ID.synd_Q
theorem zx8:Sound Tryz.prog ID.synd_Q (.pure [1] zb4):=zao (zaA [zoM,zhL]) zbg ⟨Tryz.f106,by kernel_rfl,by kernel_rfl,by kernel_rfl⟩
noncomputable def znr:Fact Tryz.prog:=⟨ID.synd_Q,(.pure [1] zb4),zx8⟩
noncomputable def zwc (zbU zaZ:Zp) (a0:List D):Option D:=
 zar (zbU [.sl .lent a0,.fn (142:Nat) [] []]) fun r1=>
 zbn r1 fun l2=>
 sif (l2.length=l2.length) <|
 sif (List.all l2 D.free=true) <|
 some (.sl .own l2)
theorem zFe (zbU zaZ:Zp) (tga0:Tag) (a0:List D):denP Tryz.prog (zay [(ID.synd_sum,(.pure [1] zbU)),(ID.gf_Pow,(.pure [0] zaZ))]) zuE [1] ID.synd_Q [.sl tga0 a0]=zwc zbU zaZ (D.lentL a0):=by kernel_rfl
theorem zzr (tga0:Tag) (a0:List D):zb4 [.sl tga0 a0]=zwc zbU zaZ (D.lentL a0):=zFe zbU zaZ tga0 a0
def zuF:Ann:={ loops:=[(0,.val (.cell (.int .u8))::dd 2 [.val (.cell (.int .u8)),.dead,.val (.cell (.int .i64))])] }
noncomputable def zfa:Zp:=denP Tryz.prog (zay [(ID.gf_double,(.pure [0] za8))]) zuF [0] ID.gf_Log
theorem zx9:Sound Tryz.prog ID.gf_Log (.pure [0] zfa):=zao (zaA [ziv]) zbg ⟨Tryz.f159,by kernel_rfl,by kernel_rfl,by kernel_rfl⟩
noncomputable def zzs:Fact Tryz.prog:=⟨ID.gf_Log,(.pure [0] zfa),zx9⟩
noncomputable def zwd (za8:Zp) (a0:Int):Option D:=
 zb2 (α:=(Int×Int×Int×PUnit)×PUnit) (fun again1 ((i2,(i3,(i4,_))),_)=>
  brK (decide (i4 < 255))
   (brK (i3 == i2)
    (some (.int .i64 i4))
    (zar (za8 [.int .u8 i3]) fun r5=>
    asI .u8 r5 fun i6=>
    letN (IntKind.i64.wrap (i4+1)) fun n7=>
    again1 (((i2,i6,n7,unit),unit))))
   (some (.int .i64 (-1))))
  (((a0,(1:Int),(0:Int),unit),unit))
theorem zFf (za8:Zp) (a0:Int):denP Tryz.prog (zay [(ID.gf_double,(.pure [0] za8))]) zuF [0] ID.gf_Log [.int .u8 a0]=zwd za8 a0:=by kernel_rfl
theorem zzt (a0:Int):zfa [.int .u8 a0]=zwd za8 a0:=zFf za8 a0
def zuG:Ann:={ loops:=[] }
noncomputable def zcW:Zp:=denP Tryz.prog (zay [(ID.gf_Log,(.pure [0] zfa)),(ID.gf_Pow,(.pure [0] zaZ))]) zuG [0] ID.gf_Inv
theorem zya:Sound Tryz.prog ID.gf_Inv (.pure [0] zcW):=zao (zaA [zzs,zhL]) zbg ⟨Tryz.f154,by kernel_rfl,by kernel_rfl,by kernel_rfl⟩
noncomputable def zsv:Fact Tryz.prog:=⟨ID.gf_Inv,(.pure [0] zcW),zya⟩
noncomputable def zwe (zfa zaZ:Zp) (a0:Int):Option D:=
 brK (a0 == 0)
  (some (.int .u8 0))
  (zar (zfa [.int .u8 a0]) fun r1=>
  asI .i64 r1 fun i2=>
  letN (IntKind.i64.wrap ((255:Int) - i2)) fun n3=>
  zar (zaZ [.int .i64 n3]) fun r4=>
  asI .u8 r4 fun i5=>
  some (.int .u8 i5))
theorem zFg (zfa zaZ:Zp) (a0:Int):denP Tryz.prog (zay [(ID.gf_Log,(.pure [0] zfa)),(ID.gf_Pow,(.pure [0] zaZ))]) zuG [0] ID.gf_Inv [.int .u8 a0]=zwe zfa zaZ a0:=by kernel_rfl
theorem zzu (a0:Int):zcW [.int .u8 a0]=zwe zfa zaZ a0:=zFg zfa zaZ a0
def zoN:Ann:={ loops:=[] }
noncomputable def zc4:Zp:=denP Tryz.prog (zay [(ID.synd_P,(.pure [1] zb3)),(ID.synd_Add,(.pure [1] zaS)),(ID.synd_Q,(.pure [1] zb4)),(ID.gf_Pow,(.pure [0] zaZ)),(ID.gf_Inv,(.pure [0] zcW)),(ID.synd_Scale,(.pure [1] zaQ))]) zoN [1,1] ID.erase_two
theorem zsw:Sound Tryz.prog ID.erase_two (.pure [1,1] zc4):=zao (zaA [znq,zg8,znr,zhL,zsv,zhK]) zbg ⟨Tryz.f136,by kernel_rfl,by kernel_rfl,by kernel_rfl⟩
noncomputable def ztr:Fact Tryz.prog:=⟨ID.erase_two,(.pure [1,1] zc4),zsw⟩
noncomputable def zns (zb3 zaS zb4 zaZ zcW zaQ:Zp) (a0 a1 a2:List D) (a3 a4:Int):Option D:=
 zar (zb3 [.sl .lent a2]) fun r1=>
 zbn r1 fun l2=>
 sif (0+l2.length≤l2.length) <|
 zar (zaS [.sl .lent a0,.sl .lent (cut 0 l2.length l2)]) fun r3=>
 zbn r3 fun l4=>
 zar (zb4 [.sl .lent a2]) fun r5=>
 zbn r5 fun l6=>
 sif (0+l6.length≤l6.length) <|
 zar (zaS [.sl .lent a1,.sl .lent (cut 0 l6.length l6)]) fun r7=>
 zbn r7 fun l8=>
 zar (zaZ [.int .i64 a3]) fun r9=>
 asI .u8 r9 fun i10=>
 zar (zaZ [.int .i64 a4]) fun r11=>
 asI .u8 r11 fun i12=>
 letN (bits BinOp.xor IntKind.u8 i10 i12) fun n13=>
 zar (zcW [.int .u8 n13]) fun r14=>
 asI .u8 r14 fun i15=>
 zar (zaZ [.int .i64 a4]) fun r16=>
 asI .u8 r16 fun i17=>
 sif (0+l4.length≤l4.length) <|
 zar (zaQ [.sl .lent (cut 0 l4.length l4),.int .u8 i17]) fun r18=>
 zbn r18 fun l19=>
 sif (0+l8.length≤l8.length) <|
 sif (0+l19.length≤l19.length) <|
 zar (zaS [.sl .lent (cut 0 l8.length l8),.sl .lent (cut 0 l19.length l19)]) fun r20=>
 zbn r20 fun l21=>
 sif (0+l21.length≤l21.length) <|
 zar (zaQ [.sl .lent (cut 0 l21.length l21),.int .u8 i15]) fun r22=>
 zbn r22 fun l23=>
 sif (0+l4.length≤l4.length) <|
 sif (0+l23.length≤l23.length) <|
 zar (zaS [.sl .lent (cut 0 l4.length l4),.sl .lent (cut 0 l23.length l23)]) fun r24=>
 zbn r24 fun l25=>
 sif (l23.length=l23.length) <|
 sif (List.all l23 D.free=true) <|
 sif (l25.length=l25.length) <|
 sif (List.all l25 D.free=true) <|
 some (.tup [.sl .own l23,.sl .own l25])
theorem zzv (zb3 zaS zb4 zaZ zcW zaQ:Zp) (tga0 tga1 tga2:Tag) (a0 a1 a2:List D) (a3 a4:Int):denP Tryz.prog (zay [(ID.synd_P,(.pure [1] zb3)),(ID.synd_Add,(.pure [1] zaS)),(ID.synd_Q,(.pure [1] zb4)),(ID.gf_Pow,(.pure [0] zaZ)),(ID.gf_Inv,(.pure [0] zcW)),(ID.synd_Scale,(.pure [1] zaQ))]) zoN [1,1] ID.erase_two [.sl tga0 a0,.sl tga1 a1,.sl tga2 a2,.int .i64 a3,.int .i64 a4]=zns zb3 zaS zb4 zaZ zcW zaQ (D.lentL a0) (D.lentL a1) (D.lentL a2) a3 a4:=by kernel_rfl
theorem zts (tga0 tga1 tga2:Tag) (a0 a1 a2:List D) (a3 a4:Int):zc4 [.sl tga0 a0,.sl tga1 a1,.sl tga2 a2,.int .i64 a3,.int .i64 a4]=zns zb3 zaS zb4 zaZ zcW zaQ (D.lentL a0) (D.lentL a1) (D.lentL a2) a3 a4:=zzv zb3 zaS zb4 zaZ zcW zaQ tga0 tga1 tga2 a0 a1 a2 a3 a4
def zoO:Ann:={ loops:=[] }
noncomputable def zcJ:Zp:=denP Tryz.prog (zay [(ID.synd_Q,(.pure [1] zb4)),(ID.synd_Add,(.pure [1] zaS)),(ID.gf_Pow,(.pure [0] zaZ)),(ID.gf_Inv,(.pure [0] zcW)),(ID.synd_Scale,(.pure [1] zaQ))]) zoO [1] ID.erase_byQ
theorem zsx:Sound Tryz.prog ID.erase_byQ (.pure [1] zcJ):=zao (zaA [znr,zg8,zhL,zsv,zhK]) zbg ⟨Tryz.f138,by kernel_rfl,by kernel_rfl,by kernel_rfl⟩
noncomputable def ztt:Fact Tryz.prog:=⟨ID.erase_byQ,(.pure [1] zcJ),zsx⟩
noncomputable def znt (zb4 zaS zaZ zcW zaQ:Zp) (a0 a1:List D) (a2:Int):Option D:=
 zar (zb4 [.sl .lent a1]) fun r1=>
 zbn r1 fun l2=>
 sif (0+l2.length≤l2.length) <|
 zar (zaS [.sl .lent a0,.sl .lent (cut 0 l2.length l2)]) fun r3=>
 zbn r3 fun l4=>
 zar (zaZ [.int .i64 a2]) fun r5=>
 asI .u8 r5 fun i6=>
 zar (zcW [.int .u8 i6]) fun r7=>
 asI .u8 r7 fun i8=>
 sif (0+l4.length≤l4.length) <|
 zar (zaQ [.sl .lent (cut 0 l4.length l4),.int .u8 i8]) fun r9=>
 zbn r9 fun l10=>
 sif (l10.length=l10.length) <|
 sif (List.all l10 D.free=true) <|
 some (.sl .own l10)
theorem zzw (zb4 zaS zaZ zcW zaQ:Zp) (tga0 tga1:Tag) (a0 a1:List D) (a2:Int):denP Tryz.prog (zay [(ID.synd_Q,(.pure [1] zb4)),(ID.synd_Add,(.pure [1] zaS)),(ID.gf_Pow,(.pure [0] zaZ)),(ID.gf_Inv,(.pure [0] zcW)),(ID.synd_Scale,(.pure [1] zaQ))]) zoO [1] ID.erase_byQ [.sl tga0 a0,.sl tga1 a1,.int .i64 a2]=znt zb4 zaS zaZ zcW zaQ (D.lentL a0) (D.lentL a1) a2:=by kernel_rfl
theorem ztu (tga0 tga1:Tag) (a0 a1:List D) (a2:Int):zcJ [.sl tga0 a0,.sl tga1 a1,.int .i64 a2]=znt zb4 zaS zaZ zcW zaQ (D.lentL a0) (D.lentL a1) a2:=zzw zb4 zaS zaZ zcW zaQ tga0 tga1 a0 a1 a2
def zlv:Ann:={ loops:=[] }
noncomputable def zcb:Zp:=denP Tryz.prog (zay [(ID.erase_Missing,(.pure [1] zbL)),(ID.erase_fits,(.pure [0] zci)),(ID.erase_filled,(.pure [1] zbY)),(ID.erase_two,(.pure [1,1] zc4)),(ID.synd_P,(.pure [1] zb3)),(ID.synd_Add,(.pure [1] zaS)),(ID.erase_byQ,(.pure [1] zcJ))]) zlv [1,0] ID.erase_Solve
theorem zpL:Sound Tryz.prog ID.erase_Solve (.pure [1,0] zcb):=zao (zaA [zoF,zsq,zpI,ztr,znq,zg8,ztt]) zbg ⟨Tryz.f103,by kernel_rfl,by kernel_rfl,by kernel_rfl⟩
noncomputable def zqP:Fact Tryz.prog:=⟨ID.erase_Solve,(.pure [1,0] zcb),zpL⟩
noncomputable def zjX (zbL zci zbY zc4 zb3 zaS zcJ:Zp) (a0:Int) (a1 a2 a3:List D):Option D:=
 zar (zbL [.sl .lent a3]) fun r1=>
 zbn r1 fun l2=>
 brK (decide (a0 < 1))
  (some (.tup [.sl .own [],.bool false]))
  (brK (decide ((↑(a3.length):Int) < 1))
   (some (.tup [.sl .own [],.bool false]))
   (brK (decide ((↑(a3.length):Int) > 8))
    (some (.tup [.sl .own [],.bool false]))
    (zar (zci [.int .i64 a0,.sl .lent a3]) fun r3=>
    asB r3 fun b4=>
    brK (!b4)
     (some (.tup [.sl .own [],.bool false]))
     (zar (zci [.int .i64 a0,.sl .full [.sl .lent a1,.sl .lent a2]]) fun r5=>
     asB r5 fun b6=>
     brK (!b6)
      (some (.tup [.sl .own [],.bool false]))
      (sif (0+l2.length≤l2.length) <|
      zar (zbL [.sl .full [.sl .lent a1,.sl .lent a2]]) fun r7=>
      zbn r7 fun l8=>
      sif (0+l8.length≤l8.length) <|
      letN (IntKind.i64.wrap ((↑(l2.length):Int)+(↑(l8.length):Int))) fun n9=>
      brK (decide (n9 > 2))
       (some (.tup [.sl .own [],.bool false]))
       (zar (zbY [.int .i64 a0,.sl .lent a3]) fun r10=>
       zbn r10 fun l11=>
       sif (0+l2.length≤l2.length) <|
       brK ((↑(l2.length):Int) == 2)
        (sif ((0:Nat) < l2.length) <|
        getK l2 ((0:Nat)) fun d12=>
        asI .i64 d12 fun i13=>
        sif ((1:Nat) < l2.length) <|
        getK l2 ((1:Nat)) fun d14=>
        asI .i64 d14 fun i15=>
        sif ((0:Nat) < l2.length) <|
        getK l2 ((0:Nat)) fun d16=>
        asI .i64 d16 fun i17=>
        sif ((1:Nat) < l2.length) <|
        getK l2 ((1:Nat)) fun d18=>
        asI .i64 d18 fun i19=>
        sif (0+l11.length≤l11.length) <|
        zar (zc4 [.sl .lent a1,.sl .lent a2,.sl .lent (cut 0 l11.length l11),.int .i64 i17,.int .i64 i19]) fun r20=>
        ze3 r20 fun ts21=>
        zaz ([Lf.any,Lf.any]) ts21 fun c22=>
        zbn c22.1 fun l23=>
        zbn c22.2.1 fun l24=>
        sif (0≤i13) <|
        sif (i13.toNat < l11.length) <|
        sif (0+l23.length≤l23.length) <|
        getK l11 (0+i13.toNat) fun d25=>
        sif (0+l23.length≤l23.length) <|
        sif (D.isAgg d25=false) <|
        sif (0≤i15) <|
        sif (i15.toNat < l11.length) <|
        sif (0+l24.length≤l24.length) <|
        getK (List.set l11 (0+i13.toNat) (.sl .fresh (cut 0 l23.length l23))) (0+i15.toNat) fun d26=>
        sif (0+l24.length≤l24.length) <|
        sif (D.isAgg d26=false) <|
        sif (l11.length=List.length (List.set (List.set l11 (0+i13.toNat) (D.sl .fresh (cut 0 l23.length l23))) (0+i15.toNat) (D.sl .fresh (cut 0 l24.length l24)))) <|
        sif (List.all (List.set (List.set l11 (0+i13.toNat) (D.sl .fresh (cut 0 l23.length l23))) (0+i15.toNat) (D.sl .fresh (cut 0 l24.length l24))) D.free=true) <|
        some (.tup [.sl .own (List.set (List.set l11 (0+i13.toNat) (.sl .fresh (cut 0 l23.length l23))) (0+i15.toNat) (.sl .fresh (cut 0 l24.length l24))),.bool true]))
        (sif (0+l2.length≤l2.length) <|
        brK ((↑(l2.length):Int) == 1)
         (brK (decide ((↑(a1.length):Int) > 0))
          (sif ((0:Nat) < l2.length) <|
          getK l2 ((0:Nat)) fun d27=>
          asI .i64 d27 fun i28=>
          sif (0+l11.length≤l11.length) <|
          zar (zb3 [.sl .lent (cut 0 l11.length l11)]) fun r29=>
          zbn r29 fun l30=>
          sif (0+l30.length≤l30.length) <|
          zar (zaS [.sl .lent a1,.sl .lent (cut 0 l30.length l30)]) fun r31=>
          zbn r31 fun l32=>
          sif (0≤i28) <|
          sif (i28.toNat < l11.length) <|
          sif (0+l32.length≤l32.length) <|
          getK l11 (0+i28.toNat) fun d33=>
          sif (0+l32.length≤l32.length) <|
          sif (D.isAgg d33=false) <|
          sif (l11.length=List.length (List.set l11 (0+i28.toNat) (D.sl .fresh (cut 0 l32.length l32)))) <|
          sif (List.all (List.set l11 (0+i28.toNat) (D.sl .fresh (cut 0 l32.length l32))) D.free=true) <|
          some (.tup [.sl .own (List.set l11 (0+i28.toNat) (.sl .fresh (cut 0 l32.length l32))),.bool true]))
          (sif (0+l2.length≤l2.length) <|
          brK ((↑(l2.length):Int) == 1)
           (sif ((0:Nat) < l2.length) <|
           getK l2 ((0:Nat)) fun d34=>
           asI .i64 d34 fun i35=>
           sif ((0:Nat) < l2.length) <|
           getK l2 ((0:Nat)) fun d36=>
           asI .i64 d36 fun i37=>
           sif (0+l11.length≤l11.length) <|
           zar (zcJ [.sl .lent a2,.sl .lent (cut 0 l11.length l11),.int .i64 i37]) fun r38=>
           zbn r38 fun l39=>
           sif (0≤i35) <|
           sif (i35.toNat < l11.length) <|
           sif (0+l39.length≤l39.length) <|
           getK l11 (0+i35.toNat) fun d40=>
           sif (0+l39.length≤l39.length) <|
           sif (D.isAgg d40=false) <|
           sif (l11.length=List.length (List.set l11 (0+i35.toNat) (D.sl .fresh (cut 0 l39.length l39)))) <|
           sif (List.all (List.set l11 (0+i35.toNat) (D.sl .fresh (cut 0 l39.length l39))) D.free=true) <|
           some (.tup [.sl .own (List.set l11 (0+i35.toNat) (.sl .fresh (cut 0 l39.length l39))),.bool true]))
           (sif (l11.length=l11.length) <|
           sif (List.all l11 D.free=true) <|
           some (.tup [.sl .own l11,.bool true]))))
         (sif (0+l2.length≤l2.length) <|
         brK ((↑(l2.length):Int) == 1)
          (sif ((0:Nat) < l2.length) <|
          getK l2 ((0:Nat)) fun d41=>
          asI .i64 d41 fun i42=>
          sif ((0:Nat) < l2.length) <|
          getK l2 ((0:Nat)) fun d43=>
          asI .i64 d43 fun i44=>
          sif (0+l11.length≤l11.length) <|
          zar (zcJ [.sl .lent a2,.sl .lent (cut 0 l11.length l11),.int .i64 i44]) fun r45=>
          zbn r45 fun l46=>
          sif (0≤i42) <|
          sif (i42.toNat < l11.length) <|
          sif (0+l46.length≤l46.length) <|
          getK l11 (0+i42.toNat) fun d47=>
          sif (0+l46.length≤l46.length) <|
          sif (D.isAgg d47=false) <|
          sif (l11.length=List.length (List.set l11 (0+i42.toNat) (D.sl .fresh (cut 0 l46.length l46)))) <|
          sif (List.all (List.set l11 (0+i42.toNat) (D.sl .fresh (cut 0 l46.length l46))) D.free=true) <|
          some (.tup [.sl .own (List.set l11 (0+i42.toNat) (.sl .fresh (cut 0 l46.length l46))),.bool true]))
          (sif (l11.length=l11.length) <|
          sif (List.all l11 D.free=true) <|
          some (.tup [.sl .own l11,.bool true]))))))))))
theorem zwf (zbL zci zbY zc4 zb3 zaS zcJ:Zp) (tga1 tga2 tga3:Tag) (a0:Int) (a1 a2 a3:List D):denP Tryz.prog (zay [(ID.erase_Missing,(.pure [1] zbL)),(ID.erase_fits,(.pure [0] zci)),(ID.erase_filled,(.pure [1] zbY)),(ID.erase_two,(.pure [1,1] zc4)),(ID.synd_P,(.pure [1] zb3)),(ID.synd_Add,(.pure [1] zaS)),(ID.erase_byQ,(.pure [1] zcJ))]) zlv [1,0] ID.erase_Solve [.int .i64 a0,.sl tga1 a1,.sl tga2 a2,.sl tga3 a3]=zjX zbL zci zbY zc4 zb3 zaS zcJ a0 (D.lentL a1) (D.lentL a2) (D.lentL a3):=by kernel_rfl
theorem zqQ (tga1 tga2 tga3:Tag) (a0:Int) (a1 a2 a3:List D):zcb [.int .i64 a0,.sl tga1 a1,.sl tga2 a2,.sl tga3 a3]=zjX zbL zci zbY zc4 zb3 zaS zcJ a0 (D.lentL a1) (D.lentL a2) (D.lentL a3):=zwf zbL zci zbY zc4 zb3 zaS zcJ tga1 tga2 tga3 a0 a1 a2 a3
def zqx:Ann:={ loops:=[(1,.dead::.val (.cell (.int .i64))::.val (.cell .lent)::.box true [(.int .i64),(.int .i64),(.int .i64)]::dd 4 (.own 1::dd 15 [.val (.cell (.int .i64)),.val (.cell (.int .i64))]))] }
noncomputable def zdA:Zp:=denP Tryz.prog (zay [(ID.row_in,(.pure [0] zcV)),(ID.geom_Width,(.pure [0] zai)),(ID.place_Disk,(.pure [0] zaW)),(ID.place_Parity,(.pure [0,0] zaB)),(ID.erase_Solve,(.pure [1,0] zcb))]) zqx [1,0] ID.row_Take
theorem ztv:Sound Tryz.prog ID.row_Take (.pure [1,0] zdA):=zao (zaA [zsn,zdl,zhE,zeM,zqP]) zbg ⟨Tryz.f55,by kernel_rfl,by kernel_rfl,by kernel_rfl⟩
noncomputable def zwg:Fact Tryz.prog:=⟨ID.row_Take,(.pure [1,0] zdA),ztv⟩
noncomputable def zpM (zcV zai zaW zaB zcb:Zp) (a0_0 a0_1 a0_2 a1:Int) (a2:List D):Option D:=
 zar (zcV [.agg [.int .i64 a0_0,.int .i64 a0_1,.int .i64 a0_2],.int .i64 a1]) fun r1=>
 asB r1 fun b2=>
 brK (!b2)
  (some (.tup [.sl .own [],.bool false]))
  (brK ((↑(a2.length):Int) != a0_1)
   (some (.tup [.sl .own [],.bool false]))
   (zar (zai [.agg [.int .i64 a0_0,.int .i64 a0_1,.int .i64 a0_2]]) fun r3=>
   asI .i64 r3 fun i4=>
   zb2 (α:=(Int×List D×(Int×Int×Int×PUnit)×List D×Int×Int×PUnit)×PUnit) (fun again5 ((i6,(l7,((i8,(i9,(i10,_))),(l11,(i12,(i13,_)))))),_)=>
    brK (decide (i13 < i12))
     (zar (zaW [.agg [.int .i64 i8,.int .i64 i9,.int .i64 i10],.int .i64 i6,.int .i64 i13]) fun r14=>
     asI .i64 r14 fun i15=>
     sif (0≤i15) <|
     getK l7 (i15.toNat) fun d16=>
     asSl d16 fun t17 l18=>
     sif (l11.length+1≤4294967296) <|
     sif (l11.length=l11.length) <|
     letN (IntKind.i64.wrap (i13+1)) fun n19=>
     sif (l11.length+1=List.length (l11++[D.sl t17 l18])) <|
     again5 (((i6,l7,(i8,i9,i10,unit),l11++[.sl t17 l18],i12,n19,unit),unit)))
     (zar (zaB [.agg [.int .i64 i8,.int .i64 i9,.int .i64 i10],.int .i64 i6]) fun r20=>
     ze3 r20 fun ts21=>
     zaz ([Lf.any,Lf.any]) ts21 fun c22=>
     asI .i64 c22.1 fun i23=>
     asI .i64 c22.2.1 fun i24=>
     brK (decide (i24 < 0))
      (sif (0≤i23) <|
      getK l7 (i23.toNat) fun d25=>
      asSl d25 fun t26 l27=>
      sif (0+l11.length≤l11.length) <|
      zar (zcb [.int .i64 32,.sl t26 l27,.sl .nil [],.sl .lent (cut 0 l11.length l11)]) fun r28=>
      ze3 r28 fun ts29=>
      zaz ([Lf.any,Lf.any]) ts29 fun c30=>
      zbn c30.1 fun l31=>
      asB c30.2.1 fun b32=>
      sif (l31.length=l31.length) <|
      sif (List.all l31 D.free=true) <|
      some (.tup [.sl .own l31,.bool b32]))
      (sif (0≤i23) <|
      getK l7 (i23.toNat) fun d33=>
      asSl d33 fun t34 l35=>
      sif (0≤i24) <|
      getK l7 (i24.toNat) fun d36=>
      asSl d36 fun t37 l38=>
      sif (0+l11.length≤l11.length) <|
      zar (zcb [.int .i64 32,.sl t34 l35,.sl t37 l38,.sl .lent (cut 0 l11.length l11)]) fun r39=>
      ze3 r39 fun ts40=>
      zaz ([Lf.any,Lf.any]) ts40 fun c41=>
      zbn c41.1 fun l42=>
      asB c41.2.1 fun b43=>
      sif (l42.length=l42.length) <|
      sif (List.all l42 D.free=true) <|
      some (.tup [.sl .own l42,.bool b43]))))
    (((a1,a2,(a0_0,a0_1,a0_2,unit),[],i4,(0:Int),unit),unit))))
theorem zBz (zcV zai zaW zaB zcb:Zp) (tga2:Tag) (a0_0 a0_1 a0_2 a1:Int) (a2:List D):denP Tryz.prog (zay [(ID.row_in,(.pure [0] zcV)),(ID.geom_Width,(.pure [0] zai)),(ID.place_Disk,(.pure [0] zaW)),(ID.place_Parity,(.pure [0,0] zaB)),(ID.erase_Solve,(.pure [1,0] zcb))]) zqx [1,0] ID.row_Take [.agg [.int .i64 a0_0,.int .i64 a0_1,.int .i64 a0_2],.int .i64 a1,.sl tga2 a2]=zpM zcV zai zaW zaB zcb a0_0 a0_1 a0_2 a1 (D.lentL a2):=by kernel_rfl
theorem zwh (tga2:Tag) (a0_0 a0_1 a0_2 a1:Int) (a2:List D):zdA [.agg [.int .i64 a0_0,.int .i64 a0_1,.int .i64 a0_2],.int .i64 a1,.sl tga2 a2]=zpM zcV zai zaW zaB zcb a0_0 a0_1 a0_2 a1 (D.lentL a2):=zBz zcV zai zaW zaB zcb tga2 a0_0 a0_1 a0_2 a1 a2
def zlw:Ann:={ loops:=[(1,.val (.cell (.hnd (2496:Nat)))::.val (.cell .lent)::.dead::.val (.cell (.int .i64))::dd 2 (.box true [(.int .i64),(.int .i64),(.int .i64)]::dd 3 (.own 1::dd 20 [.val (.cell (.int .i64)),.val (.cell (.int .i64))])))],ks:=[(2496,false),(8225,false)] }
noncomputable def zcc:Zs:=denS Tryz.prog (zay [(ID.geom_Check,(.pure [0] zaC)),(ID.stripe_up,(.st [] [0] [(2496,false),(8225,false)] zc3)),(ID.bench_Bench_Read,(.st [] [1,0] [(2496,false),(8225,false)] zbj)),(ID.row_Take,(.pure [1,0] zdA))]) zlw [1,0] ID.stripe_Read
theorem zpN:Sound Tryz.prog ID.stripe_Read (.st [] [1,0] [(2496,false),(8225,false)] zcc):=za9 (zaA [zey,ztj,zlp,zwg]) zbg ⟨Tryz.f37,by kernel_rfl,by kernel_rfl,by kernel_rfl⟩
noncomputable def zqR:Fact Tryz.prog:=⟨ID.stripe_Read,(.st [] [1,0] [(2496,false),(8225,false)] zcc),zpN⟩
noncomputable def zjY (zaC:Zp) (zc3 zbj:Zs) (zdA:Zp) (a0:Nat) (a1:List D) (a2_0 a2_1 a2_2 a3:Int) (T0 T1:Tb):Option Ans:=
 zar (zaC [.agg [.int .i64 a2_0,.int .i64 a2_1,.int .i64 a2_2]]) fun r1=>
 asI .i64 r1 fun i2=>
 brK (i2 != 0)
  (some (Ans.mk (.tup [.sl .own [],.int .i64 1]) [] []))
  (brK (decide (a3 < 0))
   (some (Ans.mk (.tup [.sl .own [],.int .i64 1]) [] []))
   (brK (decide (a3≥16))
    (some (Ans.mk (.tup [.sl .own [],.int .i64 1]) [] []))
    (sif (0≤a2_1) <|
    sif (a2_1=a2_1) <|
    sif (a2_1*24≤140737488355328) <|
    sif (a2_1≤140737488355328) <|
    sif (0+a2_1.toNat≤List.length (List.replicate (a2_1.toNat) (D.sl .nil []))) <|
    sif (a2_1.toNat=List.length (List.replicate (a2_1.toNat) (D.sl .nil []))) <|
    zb2 (α:=(Nat×List D×Int×(Int×Int×Int×PUnit)×List D×Int×Int×PUnit)×List (List D)×List (List D)×PUnit) (fun again3 ((x4,(l5,(i6,((i7,(i8,(i9,_))),(l10,(i11,(i12,_))))))),(U13,(U14,_)))=>
     brK (decide (i12 < i11))
      (zar (zc3 [.h (2496) x4 (0:Nat),.sl .lent l5,.int .i64 i12] [U13,U14]) fun r15=>
      nilK r15.outs <|
      nilK r15.tbs <|
      asB r15.r fun b16=>
      brK (!b16)
       (letN (IntKind.i64.wrap (i12+1)) fun n17=>
       sif (l10.length=l10.length) <|
       again3 (((x4,l5,i6,(i7,i8,i9,unit),l10,i11,n17,unit),U13,U14,unit)))
       (letN (IntKind.i64.wrap (36+i6)) fun n18=>
       zar (zbj [.h (2496) x4 (0:Nat),.int .i64 i12,.int .i64 n18] [U13,U14]) fun r19=>
       nilK r19.outs <|
       nilK r19.tbs <|
       ze3 r19.r fun ts20=>
       zaz ([Lf.any,Lf.any]) ts20 fun c21=>
       zbn c21.1 fun l22=>
       asI .i64 c21.2.1 fun i23=>
       brK (i23 != 0)
        (some (Ans.mk (.tup [.sl .own [],.int .i64 i23]) [] []))
        (sif (0≤i12) <|
        sif (i12.toNat < l10.length) <|
        sif (0+l22.length≤l22.length) <|
        getK l10 (0+i12.toNat) fun d24=>
        sif (0+l22.length≤l22.length) <|
        sif (D.isAgg d24=false) <|
        letN (IntKind.i64.wrap (i12+1)) fun n25=>
        sif (l10.length=List.length (List.set l10 (0+i12.toNat) (D.sl .fresh (cut 0 l22.length l22)))) <|
        again3 (((x4,l5,i6,(i7,i8,i9,unit),List.set l10 (0+i12.toNat) (.sl .fresh (cut 0 l22.length l22)),i11,n25,unit),U13,U14,unit)))))
      (sif (0+l10.length≤l10.length) <|
      zar (zdA [.agg [.int .i64 i7,.int .i64 i8,.int .i64 i9],.int .i64 i6,.sl .lent (cut 0 l10.length l10)]) fun r26=>
      ze3 r26 fun ts27=>
      zaz ([Lf.any,Lf.any]) ts27 fun c28=>
      zbn c28.1 fun l29=>
      asB c28.2.1 fun b30=>
      brK (!b30)
       (some (Ans.mk (.tup [.sl .own [],.int .i64 7]) [] []))
       (sif (l29.length=l29.length) <|
       sif (List.all l29 D.free=true) <|
       some (Ans.mk (.tup [.sl .own l29,.int .i64 0]) [] []))))
     (((a0,a1,a3,(a2_0,a2_1,a2_2,unit),List.replicate (a2_1.toNat) (.sl .nil []),(↑(a2_1.toNat):Int),(0:Int),unit),T0,T1,unit)))))
theorem zwi (zaC:Zp) (zc3 zbj:Zs) (zdA:Zp) (tga1:Tag) (a0:Nat) (a1:List D) (a2_0 a2_1 a2_2 a3:Int) (T0 T1:Tb):denS Tryz.prog (zay [(ID.geom_Check,(.pure [0] zaC)),(ID.stripe_up,(.st [] [0] [(2496,false),(8225,false)] zc3)),(ID.bench_Bench_Read,(.st [] [1,0] [(2496,false),(8225,false)] zbj)),(ID.row_Take,(.pure [1,0] zdA))]) zlw [1,0] ID.stripe_Read [.h 2496 a0 0,.sl tga1 a1,.agg [.int .i64 a2_0,.int .i64 a2_1,.int .i64 a2_2],.int .i64 a3] [T0,T1]=zjY zaC zc3 zbj zdA a0 (D.lentL a1) a2_0 a2_1 a2_2 a3 T0 T1:=by kernel_rfl
theorem zqS (tga1:Tag) (a0:Nat) (a1:List D) (a2_0 a2_1 a2_2 a3:Int) (T0 T1:Tb):zcc [.h 2496 a0 0,.sl tga1 a1,.agg [.int .i64 a2_0,.int .i64 a2_1,.int .i64 a2_2],.int .i64 a3] [T0,T1]=zjY zaC zc3 zbj zdA a0 (D.lentL a1) a2_0 a2_1 a2_2 a3 T0 T1:=zwi zaC zc3 zbj zdA tga1 a0 a1 a2_0 a2_1 a2_2 a3 T0 T1
def zke:Ann:={ loops:=[] }
noncomputable def zb7:Zp:=denP Tryz.prog (zay [(ID.geom_Width,(.pure [0] zai))]) zke [0] ID.place_number
theorem zoP:Sound Tryz.prog ID.place_number (.pure [0] zb7):=zao (zaA [zdl]) zbg ⟨Tryz.f112,by kernel_rfl,by kernel_rfl,by kernel_rfl⟩
noncomputable def zpO:Fact Tryz.prog:=⟨ID.place_number,(.pure [0] zb7),zoP⟩
noncomputable def ziw (zai:Zp) (a0_0 a0_1 a0_2 a1 a2:Int):Option D:=
 sif (a0_2≠0) <|
 letN (IntKind.i64.wrap (Int.tdiv a1 a0_2)) fun n1=>
 zar (zai [.agg [.int .i64 a0_0,.int .i64 a0_1,.int .i64 a0_2]]) fun r2=>
 asI .i64 r2 fun i3=>
 letN (IntKind.i64.wrap (n1*i3)) fun n4=>
 letN (IntKind.i64.wrap (n4+a2)) fun n5=>
 letN (IntKind.i64.wrap (n5*a0_2)) fun n6=>
 sif (a0_2≠0) <|
 letN (Int.tmod a1 a0_2) fun n7=>
 letN (IntKind.i64.wrap (n6+n7)) fun n8=>
 some (.int .i64 n8)
theorem ztw (zai:Zp) (a0_0 a0_1 a0_2 a1 a2:Int):denP Tryz.prog (zay [(ID.geom_Width,(.pure [0] zai))]) zke [0] ID.place_number [.agg [.int .i64 a0_0,.int .i64 a0_1,.int .i64 a0_2],.int .i64 a1,.int .i64 a2]=ziw zai a0_0 a0_1 a0_2 a1 a2:=by kernel_rfl
theorem zpP (a0_0 a0_1 a0_2 a1 a2:Int):zb7 [.agg [.int .i64 a0_0,.int .i64 a0_1,.int .i64 a0_2],.int .i64 a1,.int .i64 a2]=ziw zai a0_0 a0_1 a0_2 a1 a2:=ztw zai a0_0 a0_1 a0_2 a1 a2
def zjg:Ann:={ loops:=[(1,.dead::.val (.cell (.int .i64))::.box true [(.int .i64),(.int .i64),(.int .i64)]::dd 2 (.own 1::dd 6 [.val (.cell (.int .i64)),.val (.cell (.int .i64))]))] }
noncomputable def zbR:Zp:=denP Tryz.prog (zay [(ID.place_in,(.pure [0] zbp)),(ID.geom_Width,(.pure [0] zai)),(ID.place_number,(.pure [0] zb7))]) zjg [1] ID.place_Numbers
theorem znu:Sound Tryz.prog ID.place_Numbers (.pure [1] zbR):=zao (zaA [zjT,zdl,zpO]) zbg ⟨Tryz.f65,by kernel_rfl,by kernel_rfl,by kernel_rfl⟩
noncomputable def zoQ:Fact Tryz.prog:=⟨ID.place_Numbers,(.pure [1] zbR),znu⟩
noncomputable def zhM (zbp zai zb7:Zp) (a0_0 a0_1 a0_2 a1:Int):Option D:=
 zar (zbp [.agg [.int .i64 a0_0,.int .i64 a0_1,.int .i64 a0_2],.int .i64 a1]) fun r1=>
 asB r1 fun b2=>
 brK (!b2)
  (some (.sl .own []))
  (zar (zai [.agg [.int .i64 a0_0,.int .i64 a0_1,.int .i64 a0_2]]) fun r3=>
  asI .i64 r3 fun i4=>
  zb2 (α:=(Int×(Int×Int×Int×PUnit)×List D×Int×Int×PUnit)×PUnit) (fun again5 ((i6,((i7,(i8,(i9,_))),(l10,(i11,(i12,_))))),_)=>
   brK (decide (i12 < i11))
    (zar (zb7 [.agg [.int .i64 i7,.int .i64 i8,.int .i64 i9],.int .i64 i6,.int .i64 i12]) fun r13=>
    asI .i64 r13 fun i14=>
    sif (l10.length+1≤4294967296) <|
    sif (l10.length=l10.length) <|
    letN (IntKind.i64.wrap (i12+1)) fun n15=>
    sif (l10.length+1=List.length (l10++[D.int .i64 i14])) <|
    again5 (((i6,(i7,i8,i9,unit),l10++[.int .i64 i14],i11,n15,unit),unit)))
    (sif (l10.length=l10.length) <|
    sif (List.all l10 D.free=true) <|
    some (.sl .own l10)))
   (((a1,(a0_0,a0_1,a0_2,unit),[],i4,(0:Int),unit),unit)))
theorem zsy (zbp zai zb7:Zp) (a0_0 a0_1 a0_2 a1:Int):denP Tryz.prog (zay [(ID.place_in,(.pure [0] zbp)),(ID.geom_Width,(.pure [0] zai)),(ID.place_number,(.pure [0] zb7))]) zjg [1] ID.place_Numbers [.agg [.int .i64 a0_0,.int .i64 a0_1,.int .i64 a0_2],.int .i64 a1]=zhM zbp zai zb7 a0_0 a0_1 a0_2 a1:=by kernel_rfl
theorem zoR (a0_0 a0_1 a0_2 a1:Int):zbR [.agg [.int .i64 a0_0,.int .i64 a0_1,.int .i64 a0_2],.int .i64 a1]=zhM zbp zai zb7 a0_0 a0_1 a0_2 a1:=zsy zbp zai zb7 a0_0 a0_1 a0_2 a1
def zlx:Ann:={ loops:=[] }
noncomputable def zcm:Zp:=denP Tryz.prog (zay [(ID.slices_ContainsFunc_byte_byte,(.pure [0] zaf)),(ID.row_sectors_1,(.pure [0] zaw))]) zlx [0] ID.row_sectors
theorem zpQ:Sound Tryz.prog ID.row_sectors (.pure [0] zcm):=zao (zaA [zdv,zfQ]) zbg ⟨Tryz.f104,by kernel_rfl,by kernel_rfl,by kernel_rfl⟩
noncomputable def zqT:Fact Tryz.prog:=⟨ID.row_sectors,(.pure [0] zcm),zpQ⟩
noncomputable def zjZ (zaf zaw:Zp) (a0:List D):Option D:=
 zar (zaf [.sl .lent a0,.fn (139:Nat) [] []]) fun r1=>
 asB r1 fun b2=>
 some (.bool !b2)
theorem zwj (zaf zaw:Zp) (tga0:Tag) (a0:List D):denP Tryz.prog (zay [(ID.slices_ContainsFunc_byte_byte,(.pure [0] zaf)),(ID.row_sectors_1,(.pure [0] zaw))]) zlx [0] ID.row_sectors [.sl tga0 a0]=zjZ zaf zaw (D.lentL a0):=by kernel_rfl
theorem zqU (tga0:Tag) (a0:List D):zcm [.sl tga0 a0]=zjZ zaf zaw (D.lentL a0):=zwj zaf zaw tga0 a0
def zqy:Ann:={ loops:=[(1,.dead::.val (.cell (.int .i64))::.val (.cell .lent)::.box true [(.int .i64),(.int .i64),(.int .i64)]::dd 4 (.own 1::dd 23 [.val (.cell .lent),.val (.cell (.int .i64)),.val (.cell (.int .i64))]))] }
noncomputable def zdB:Zp:=denP Tryz.prog (zay [(ID.row_in,(.pure [0] zcV)),(ID.geom_Width,(.pure [0] zai)),(ID.row_sectors,(.pure [0] zcm)),(ID.place_Disk,(.pure [0] zaW)),(ID.slices_Clone_byte_byte,(.pure [1] zae)),(ID.place_Parity,(.pure [0,0] zaB)),(ID.synd_P,(.pure [1] zb3)),(ID.synd_Q,(.pure [1] zb4))]) zqy [1,0] ID.row_Fill
theorem ztx:Sound Tryz.prog ID.row_Fill (.pure [1,0] zdB):=zao (zaA [zsn,zdl,zqT,zhE,zdm,zeM,znq,znr]) zbg ⟨Tryz.f56,by kernel_rfl,by kernel_rfl,by kernel_rfl⟩
noncomputable def zwk:Fact Tryz.prog:=⟨ID.row_Fill,(.pure [1,0] zdB),ztx⟩
noncomputable def zpR (zcV zai zcm zaW zae zaB zb3 zb4:Zp) (a0_0 a0_1 a0_2 a1:Int) (a2:List D):Option D:=
 zar (zcV [.agg [.int .i64 a0_0,.int .i64 a0_1,.int .i64 a0_2],.int .i64 a1]) fun r1=>
 asB r1 fun b2=>
 brK (!b2)
  (some (.tup [.sl .own [],.bool false]))
  (zar (zai [.agg [.int .i64 a0_0,.int .i64 a0_1,.int .i64 a0_2]]) fun r3=>
  asI .i64 r3 fun i4=>
  brK ((↑(a2.length):Int) != i4)
   (some (.tup [.sl .own [],.bool false]))
   (zar (zcm [.sl .lent a2]) fun r5=>
   asB r5 fun b6=>
   brK (!b6)
    (some (.tup [.sl .own [],.bool false]))
    (sif (0≤a0_1) <|
    sif (a0_1=a0_1) <|
    sif (a0_1*24≤140737488355328) <|
    sif (a0_1≤140737488355328) <|
    sif (a0_1.toNat=List.length (List.replicate (a0_1.toNat) (D.sl .nil []))) <|
    zb2 (α:=(Int×List D×(Int×Int×Int×PUnit)×List D×List D×Int×Int×PUnit)×PUnit) (fun again7 ((i8,(l9,((i10,(i11,(i12,_))),(l13,(l14,(i15,(i16,_))))))),_)=>
     brK (decide (i16 < i15))
      (sif (0≤i16) <|
      getK l14 (i16.toNat) fun d17=>
      asSl d17 fun t18 l19=>
      zar (zaW [.agg [.int .i64 i10,.int .i64 i11,.int .i64 i12],.int .i64 i8,.int .i64 i16]) fun r20=>
      asI .i64 r20 fun i21=>
      zar (zae [.sl t18 l19]) fun r22=>
      zbn r22 fun l23=>
      sif (0≤i21) <|
      sif (i21.toNat < l13.length) <|
      sif (0+l23.length≤l23.length) <|
      getK l13 (0+i21.toNat) fun d24=>
      sif (0+l23.length≤l23.length) <|
      sif (D.isAgg d24=false) <|
      letN (IntKind.i64.wrap (i16+1)) fun n25=>
      sif (l13.length=List.length (List.set l13 (0+i21.toNat) (D.sl .fresh (cut 0 l23.length l23)))) <|
      again7 (((i8,l9,(i10,i11,i12,unit),List.set l13 (0+i21.toNat) (.sl .fresh (cut 0 l23.length l23)),l14,i15,n25,unit),unit)))
      (zar (zaB [.agg [.int .i64 i10,.int .i64 i11,.int .i64 i12],.int .i64 i8]) fun r26=>
      ze3 r26 fun ts27=>
      zaz ([Lf.any,Lf.any]) ts27 fun c28=>
      asI .i64 c28.1 fun i29=>
      asI .i64 c28.2.1 fun i30=>
      zar (zb3 [.sl .lent l9]) fun r31=>
      zbn r31 fun l32=>
      sif (0≤i29) <|
      sif (i29.toNat < l13.length) <|
      sif (0+l32.length≤l32.length) <|
      getK l13 (0+i29.toNat) fun d33=>
      sif (0+l32.length≤l32.length) <|
      sif (D.isAgg d33=false) <|
      brK (decide (i30≥0))
       (zar (zb4 [.sl .lent l9]) fun r34=>
       zbn r34 fun l35=>
       sif (0≤i30) <|
       sif (i30.toNat < l13.length) <|
       sif (0+l35.length≤l35.length) <|
       getK (List.set l13 (0+i29.toNat) (.sl .fresh (cut 0 l32.length l32))) (0+i30.toNat) fun d36=>
       sif (0+l35.length≤l35.length) <|
       sif (D.isAgg d36=false) <|
       sif (l13.length=List.length (List.set (List.set l13 (0+i29.toNat) (D.sl .fresh (cut 0 l32.length l32))) (0+i30.toNat) (D.sl .fresh (cut 0 l35.length l35)))) <|
       sif (List.all (List.set (List.set l13 (0+i29.toNat) (D.sl .fresh (cut 0 l32.length l32))) (0+i30.toNat) (D.sl .fresh (cut 0 l35.length l35))) D.free=true) <|
       some (.tup [.sl .own (List.set (List.set l13 (0+i29.toNat) (.sl .fresh (cut 0 l32.length l32))) (0+i30.toNat) (.sl .fresh (cut 0 l35.length l35))),.bool true]))
       (sif (l13.length=List.length (List.set l13 (0+i29.toNat) (.sl .fresh (cut 0 l32.length l32)))) <|
       sif (List.all (List.set l13 (0+i29.toNat) (D.sl .fresh (cut 0 l32.length l32))) D.free=true) <|
       some (.tup [.sl .own (List.set l13 (0+i29.toNat) (.sl .fresh (cut 0 l32.length l32))),.bool true]))))
     (((a1,a2,(a0_0,a0_1,a0_2,unit),List.replicate (a0_1.toNat) (.sl .nil []),a2,(↑(a2.length):Int),(0:Int),unit),unit)))))
theorem zBA (zcV zai zcm zaW zae zaB zb3 zb4:Zp) (tga2:Tag) (a0_0 a0_1 a0_2 a1:Int) (a2:List D):denP Tryz.prog (zay [(ID.row_in,(.pure [0] zcV)),(ID.geom_Width,(.pure [0] zai)),(ID.row_sectors,(.pure [0] zcm)),(ID.place_Disk,(.pure [0] zaW)),(ID.slices_Clone_byte_byte,(.pure [1] zae)),(ID.place_Parity,(.pure [0,0] zaB)),(ID.synd_P,(.pure [1] zb3)),(ID.synd_Q,(.pure [1] zb4))]) zqy [1,0] ID.row_Fill [.agg [.int .i64 a0_0,.int .i64 a0_1,.int .i64 a0_2],.int .i64 a1,.sl tga2 a2]=zpR zcV zai zcm zaW zae zaB zb3 zb4 a0_0 a0_1 a0_2 a1 (D.lentL a2):=by kernel_rfl
theorem zwl (tga2:Tag) (a0_0 a0_1 a0_2 a1:Int) (a2:List D):zdB [.agg [.int .i64 a0_0,.int .i64 a0_1,.int .i64 a0_2],.int .i64 a1,.sl tga2 a2]=zpR zcV zai zcm zaW zae zaB zb3 zb4 a0_0 a0_1 a0_2 a1 (D.lentL a2):=zBA zcV zai zcm zaW zae zaB zb3 zb4 tga2 a0_0 a0_1 a0_2 a1 a2
def zoS:Ann:={ loops:=[],ks:=[(2496,false),(8225,false)] }
noncomputable def zbZ:Zs:=denS Tryz.prog (zay [(ID.bench_Bench_Len,(.st [] [0] [(2496,false)] zal)),(ID.bench_Bench_Failed,(.st [] [0] [(2496,false),(8225,false)] zaL))]) zoS [0] ID.update_up
theorem zsz:Sound Tryz.prog ID.update_up (.st [] [0] [(2496,false),(8225,false)] zbZ):=za9 (zaA [zdR,zfO]) zbg ⟨Tryz.f68,by kernel_rfl,by kernel_rfl,by kernel_rfl⟩
noncomputable def zty:Fact Tryz.prog:=⟨ID.update_up,(.st [] [0] [(2496,false),(8225,false)] zbZ),zsz⟩
noncomputable def znv (zal zaL:Zs) (a0:Nat) (a1:List D) (a2:Int) (T0 T1:Tb):Option Ans:=
 brK (decide (a2≥0))
  (zar (zal [.h 2496 a0 0] [T0]) fun r1=>
  nilK r1.outs <|
  nilK r1.tbs <|
  asI .i64 r1.r fun i2=>
  brK (decide (a2 < i2))
   (brK (decide (a2 < (↑(a1.length):Int)))
    (sif (0≤a2) <|
    getK a1 (a2.toNat) fun d3=>
    asB d3 fun b4=>
    brK b4
     (zar (zaL [.h 2496 a0 0,.int .i64 a2] [T0,T1]) fun r5=>
     nilK r5.outs <|
     nilK r5.tbs <|
     asB r5.r fun b6=>
     some (Ans.mk (.bool !b6) [] []))
     (some (Ans.mk (.bool false) [] [])))
    (some (Ans.mk (.bool false) [] [])))
   (some (Ans.mk (.bool false) [] [])))
  (some (Ans.mk (.bool false) [] []))
theorem zzx (zal zaL:Zs) (tga1:Tag) (a0:Nat) (a1:List D) (a2:Int) (T0 T1:Tb):denS Tryz.prog (zay [(ID.bench_Bench_Len,(.st [] [0] [(2496,false)] zal)),(ID.bench_Bench_Failed,(.st [] [0] [(2496,false),(8225,false)] zaL))]) zoS [0] ID.update_up [.h 2496 a0 0,.sl tga1 a1,.int .i64 a2] [T0,T1]=znv zal zaL a0 (D.lentL a1) a2 T0 T1:=by kernel_rfl
theorem ztz (tga1:Tag) (a0:Nat) (a1:List D) (a2:Int) (T0 T1:Tb):zbZ [.h 2496 a0 0,.sl tga1 a1,.int .i64 a2] [T0,T1]=znv zal zaL a0 (D.lentL a1) a2 T0 T1:=zzx zal zaL tga1 a0 a1 a2 T0 T1
def zly:Ann:={ loops:=[],unr:=[(3,4)],ks:=[(2496,false),(8225,false)] }
noncomputable def zbk:Zs:=denS Tryz.prog (zay [(ID.place_Of,(.pure [0,0,0] zdg)),(ID.stripe_Read,(.st [] [1,0] [(2496,false),(8225,false)] zcc)),(ID.place_Numbers,(.pure [1] zbR)),(ID.slices_Index_int_int,(.pure [0] zaG)),(ID.row_Fill,(.pure [1,0] zdB)),(ID.place_Parity,(.pure [0,0] zaB)),(ID.update_up,(.st [] [0] [(2496,false),(8225,false)] zbZ))]) zly [0,0] ID.update_Plan
theorem zpS:Sound Tryz.prog ID.update_Plan (.st [] [0,0] [(2496,false),(8225,false)] zbk):=za9 (zaA [zv3,zqR,zoQ,ze7,zwk,zeM,zty]) zbg ⟨Tryz.f29,by kernel_rfl,by kernel_rfl,by kernel_rfl⟩
noncomputable def zkf:Fact Tryz.prog:=⟨ID.update_Plan,(.st [] [0,0] [(2496,false),(8225,false)] zbk),zpS⟩
noncomputable def zj0 (zdg:Zp) (zcc:Zs) (zbR zaG zdB zaB:Zp) (zbZ:Zs) (a0:Nat) (a1:List D) (a2_0 a2_1 a2_2 a3:Int) (a4:List D) (a5:Int) (T0 T1:Tb):Option Ans:=
 brK ((↑(a4.length):Int) != 32)
  (some (Ans.mk (.tup [.agg [.int .i64 0,.sl .nil []],.int .i64 1]) [] []))
  (zar (zdg [.agg [.int .i64 a2_0,.int .i64 a2_1,.int .i64 a2_2],.int .i64 a3]) fun r1=>
  ze3 r1 fun ts2=>
  zaz ([Lf.any,Lf.any,Lf.any]) ts2 fun c3=>
  asI .i64 c3.1 fun i4=>
  asI .i64 c3.2.1 fun i5=>
  asB c3.2.2.1 fun b6=>
  brK (!b6)
   (some (Ans.mk (.tup [.agg [.int .i64 0,.sl .nil []],.int .i64 4]) [] []))
   (zar (zcc [.h 2496 a0 0,.sl .lent a1,.agg [.int .i64 a2_0,.int .i64 a2_1,.int .i64 a2_2],.int .i64 i5] [T0,T1]) fun r7=>
   nilK r7.outs <|
   nilK r7.tbs <|
   ze3 r7.r fun ts8=>
   zaz ([Lf.any,Lf.any]) ts8 fun c9=>
   zbn c9.1 fun l10=>
   asI .i64 c9.2.1 fun i11=>
   brK (i11 != 0)
    (some (Ans.mk (.tup [.agg [.int .i64 0,.sl .nil []],.int .i64 i11]) [] []))
    (zar (zbR [.agg [.int .i64 a2_0,.int .i64 a2_1,.int .i64 a2_2],.int .i64 i5]) fun r12=>
    zbn r12 fun l13=>
    sif (0+l13.length≤l13.length) <|
    zar (zaG [.sl .lent (cut 0 l13.length l13),.int .i64 a3]) fun r14=>
    asI .i64 r14 fun i15=>
    sif (0≤i15) <|
    sif (i15.toNat < l10.length) <|
    getK l10 (0+i15.toNat) fun d16=>
    sif (D.isAgg d16=false) <|
    sif (0+l10.length≤List.length (List.set l10 (0+i15.toNat) (D.sl .lent a4))) <|
    zar (zdB [.agg [.int .i64 a2_0,.int .i64 a2_1,.int .i64 a2_2],.int .i64 i5,.sl .lent (cut 0 l10.length (List.set l10 (0+i15.toNat) (.sl .lent a4)))]) fun r17=>
    ze3 r17 fun ts18=>
    zaz ([Lf.any,Lf.any]) ts18 fun c19=>
    zbn c19.1 fun l20=>
    asB c19.2.1 fun b21=>
    zar (zaB [.agg [.int .i64 a2_0,.int .i64 a2_1,.int .i64 a2_2],.int .i64 i5]) fun r22=>
    ze3 r22 fun ts23=>
    zaz ([Lf.any,Lf.any]) ts23 fun c24=>
    asI .i64 c24.1 fun i25=>
    asI .i64 c24.2.1 fun i26=>
    zar (zbZ [.h 2496 a0 0,.sl .lent a1,.int .i64 i4] [T0,T1]) fun r27=>
    nilK r27.outs <|
    nilK r27.tbs <|
    asB r27.r fun b28=>
    brK b28
     (letN (IntKind.i64.wrap (36+i5)) fun n29=>
     sif (0≤i4) <|
     sif (i4.toNat < l20.length) <|
     getK l20 (0+i4.toNat) fun d30=>
     asSl d30 fun t31 l32=>
     zar (zbZ [.h 2496 a0 0,.sl .lent a1,.int .i64 i25] [T0,T1]) fun r33=>
     nilK r33.outs <|
     nilK r33.tbs <|
     asB r33.r fun b34=>
     brK b34
      (letN (IntKind.i64.wrap (36+i5)) fun n35=>
      sif (0≤i25) <|
      sif (i25.toNat < l20.length) <|
      getK l20 (0+i25.toNat) fun d36=>
      asSl d36 fun t37 l38=>
      zar (zbZ [.h 2496 a0 0,.sl .lent a1,.int .i64 i26] [T0,T1]) fun r39=>
      nilK r39.outs <|
      nilK r39.tbs <|
      asB r39.r fun b40=>
      brK b40
       (letN (IntKind.i64.wrap (36+i5)) fun n41=>
       sif (0≤i26) <|
       sif (i26.toNat < l20.length) <|
       getK l20 (0+i26.toNat) fun d42=>
       asSl d42 fun t43 l44=>
       sif (D.free (D.agg [D.int .i64 a5,D.sl .fresh [D.agg [D.int .i64 i4,D.int .i64 n29,D.sl t31 l32],D.agg [D.int .i64 i25,D.int .i64 n35,D.sl t37 l38],D.agg [D.int .i64 i26,D.int .i64 n41,D.sl t43 l44]]])=true) <|
       some (Ans.mk (.tup [.agg [.int .i64 a5,.sl .fresh [.agg [.int .i64 i4,.int .i64 n29,.sl t31 l32],.agg [.int .i64 i25,.int .i64 n35,.sl t37 l38],.agg [.int .i64 i26,.int .i64 n41,.sl t43 l44]]],.int .i64 0]) [] []))
       (sif (D.free (.agg [.int .i64 a5,.sl .fresh [.agg [.int .i64 i4,.int .i64 n29,.sl t31 l32],.agg [.int .i64 i25,.int .i64 n35,.sl t37 l38]]])=true) <|
       some (Ans.mk (.tup [.agg [.int .i64 a5,.sl .fresh [.agg [.int .i64 i4,.int .i64 n29,.sl t31 l32],.agg [.int .i64 i25,.int .i64 n35,.sl t37 l38]]],.int .i64 0]) [] [])))
      (zar (zbZ [.h 2496 a0 0,.sl .lent a1,.int .i64 i26] [T0,T1]) fun r45=>
      nilK r45.outs <|
      nilK r45.tbs <|
      asB r45.r fun b46=>
      brK b46
       (letN (IntKind.i64.wrap (36+i5)) fun n47=>
       sif (0≤i26) <|
       sif (i26.toNat < l20.length) <|
       getK l20 (0+i26.toNat) fun d48=>
       asSl d48 fun t49 l50=>
       sif (D.free (D.agg [D.int .i64 a5,D.sl .fresh [D.agg [D.int .i64 i4,D.int .i64 n29,D.sl t31 l32],D.agg [D.int .i64 i26,D.int .i64 n47,D.sl t49 l50]]])=true) <|
       some (Ans.mk (.tup [.agg [.int .i64 a5,.sl .fresh [.agg [.int .i64 i4,.int .i64 n29,.sl t31 l32],.agg [.int .i64 i26,.int .i64 n47,.sl t49 l50]]],.int .i64 0]) [] []))
       (sif (D.free (.agg [.int .i64 a5,.sl .fresh [.agg [.int .i64 i4,.int .i64 n29,.sl t31 l32]]])=true) <|
       some (Ans.mk (.tup [.agg [.int .i64 a5,.sl .fresh [.agg [.int .i64 i4,.int .i64 n29,.sl t31 l32]]],.int .i64 0]) [] []))))
     (zar (zbZ [.h 2496 a0 0,.sl .lent a1,.int .i64 i25] [T0,T1]) fun r51=>
     nilK r51.outs <|
     nilK r51.tbs <|
     asB r51.r fun b52=>
     brK b52
      (letN (IntKind.i64.wrap (36+i5)) fun n53=>
      sif (0≤i25) <|
      sif (i25.toNat < l20.length) <|
      getK l20 (0+i25.toNat) fun d54=>
      asSl d54 fun t55 l56=>
      zar (zbZ [.h 2496 a0 0,.sl .lent a1,.int .i64 i26] [T0,T1]) fun r57=>
      nilK r57.outs <|
      nilK r57.tbs <|
      asB r57.r fun b58=>
      brK b58
       (letN (IntKind.i64.wrap (36+i5)) fun n59=>
       sif (0≤i26) <|
       sif (i26.toNat < l20.length) <|
       getK l20 (0+i26.toNat) fun d60=>
       asSl d60 fun t61 l62=>
       sif (D.free (D.agg [D.int .i64 a5,D.sl .fresh [D.agg [D.int .i64 i25,D.int .i64 n53,D.sl t55 l56],D.agg [D.int .i64 i26,D.int .i64 n59,D.sl t61 l62]]])=true) <|
       some (Ans.mk (.tup [.agg [.int .i64 a5,.sl .fresh [.agg [.int .i64 i25,.int .i64 n53,.sl t55 l56],.agg [.int .i64 i26,.int .i64 n59,.sl t61 l62]]],.int .i64 0]) [] []))
       (sif (D.free (.agg [.int .i64 a5,.sl .fresh [.agg [.int .i64 i25,.int .i64 n53,.sl t55 l56]]])=true) <|
       some (Ans.mk (.tup [.agg [.int .i64 a5,.sl .fresh [.agg [.int .i64 i25,.int .i64 n53,.sl t55 l56]]],.int .i64 0]) [] [])))
      (zar (zbZ [.h 2496 a0 0,.sl .lent a1,.int .i64 i26] [T0,T1]) fun r63=>
      nilK r63.outs <|
      nilK r63.tbs <|
      asB r63.r fun b64=>
      brK b64
       (letN (IntKind.i64.wrap (36+i5)) fun n65=>
       sif (0≤i26) <|
       sif (i26.toNat < l20.length) <|
       getK l20 (0+i26.toNat) fun d66=>
       asSl d66 fun t67 l68=>
       sif (D.free (D.agg [D.int .i64 a5,D.sl .fresh [D.agg [D.int .i64 i26,D.int .i64 n65,D.sl t67 l68]]])=true) <|
       some (Ans.mk (.tup [.agg [.int .i64 a5,.sl .fresh [.agg [.int .i64 i26,.int .i64 n65,.sl t67 l68]]],.int .i64 0]) [] []))
       (some (Ans.mk (.tup [.agg [.int .i64 a5,.sl .nil []],.int .i64 0]) [] [])))))))
theorem zwm (zdg:Zp) (zcc:Zs) (zbR zaG zdB zaB:Zp) (zbZ:Zs) (tga1 tga4:Tag) (a0:Nat) (a1:List D) (a2_0 a2_1 a2_2 a3:Int) (a4:List D) (a5:Int) (T0 T1:Tb):denS Tryz.prog (zay [(ID.place_Of,(.pure [0,0,0] zdg)),(ID.stripe_Read,(.st [] [1,0] [(2496,false),(8225,false)] zcc)),(ID.place_Numbers,(.pure [1] zbR)),(ID.slices_Index_int_int,(.pure [0] zaG)),(ID.row_Fill,(.pure [1,0] zdB)),(ID.place_Parity,(.pure [0,0] zaB)),(ID.update_up,(.st [] [0] [(2496,false),(8225,false)] zbZ))]) zly [0,0] ID.update_Plan [.h 2496 a0 0,.sl tga1 a1,.agg [.int .i64 a2_0,.int .i64 a2_1,.int .i64 a2_2],.int .i64 a3,.sl tga4 a4,.int .i64 a5] [T0,T1]=zj0 zdg zcc zbR zaG zdB zaB zbZ a0 (D.lentL a1) a2_0 a2_1 a2_2 a3 (D.lentL a4) a5 T0 T1:=by kernel_rfl
theorem zqV (tga1 tga4:Tag) (a0:Nat) (a1:List D) (a2_0 a2_1 a2_2 a3:Int) (a4:List D) (a5:Int) (T0 T1:Tb):zbk [.h 2496 a0 0,.sl tga1 a1,.agg [.int .i64 a2_0,.int .i64 a2_1,.int .i64 a2_2],.int .i64 a3,.sl tga4 a4,.int .i64 a5] [T0,T1]=zj0 zdg zcc zbR zaG zdB zaB zbZ a0 (D.lentL a1) a2_0 a2_1 a2_2 a3 (D.lentL a4) a5 T0 T1:=zwm zdg zcc zbR zaG zdB zaB zbZ tga1 tga4 a0 a1 a2_0 a2_1 a2_2 a3 a4 a5 T0 T1
def zlz:Ann:={ loops:=[] }
noncomputable def zcn:Zp:=denP Tryz.prog (zay []) zlz [0] ID.record_fine
theorem zpT:Sound Tryz.prog ID.record_fine (.pure [0] zcn):=zao (zaA []) zbg ⟨Tryz.f119,by kernel_rfl,by kernel_rfl,by kernel_rfl⟩
noncomputable def zqW:Fact Tryz.prog:=⟨ID.record_fine,(.pure [0] zcn),zpT⟩
noncomputable def zj1 (a0_0 a0_1:Int) (a0_2:List D):Option D:=
 brK (decide (a0_0≥0))
  (brK (decide (a0_0 < 8))
   (brK (decide (a0_1≥36))
    (brK (decide (a0_1 < 52))
     (some (.bool ((↑(a0_2.length):Int) == 32)))
     (some (.bool false)))
    (some (.bool false)))
   (some (.bool false)))
  (some (.bool false))
theorem zwn (tga0_2:Tag) (a0_0 a0_1:Int) (a0_2:List D):denP Tryz.prog (zay []) zlz [0] ID.record_fine [.agg [.int .i64 a0_0,.int .i64 a0_1,.sl tga0_2 a0_2]]=zj1 a0_0 a0_1 (D.lentL a0_2):=by kernel_rfl
theorem zqX (tga0_2:Tag) (a0_0 a0_1:Int) (a0_2:List D):zcn [.agg [.int .i64 a0_0,.int .i64 a0_1,.sl tga0_2 a0_2]]=zj1 a0_0 a0_1 (D.lentL a0_2):=zwn tga0_2 a0_0 a0_1 a0_2
def zih:Ann:={ loops:=[],hints:=[(1,.atA [.int .i64,.int .i64,.sl])] }
noncomputable def za0:Zp:=denP Tryz.prog (zay []) zih [0] ID.record_Check_1
theorem zmv:Sound Tryz.prog ID.record_Check_1 (.pure [0] za0):=zao (zaA []) zbg ⟨Tryz.f121,by kernel_rfl,by kernel_rfl,by kernel_rfl⟩
noncomputable def zhN:Fact Tryz.prog:=⟨ID.record_Check_1,(.pure [0] za0),zmv⟩
noncomputable def zgL (a0_0 a0_1:Int) (a0_2:List D) (c0 c1:Int) (c2:List D):Option D:=
 brK (a0_0 == c0)
  (some (.bool (a0_1 == c1)))
  (some (.bool false))
theorem zqY (tga0_2:Tag) (a0_0 a0_1:Int) (a0_2:List D) (c0 c1:Int) (c2:List D):denP Tryz.prog (zay []) zih [0] ID.record_Check_1 [.agg [.int .i64 a0_0,.int .i64 a0_1,.sl tga0_2 a0_2],.at_ (.agg [.int .i64 c0,.int .i64 c1,.sl .lent c2])]=zgL a0_0 a0_1 (D.lentL a0_2) c0 c1 (D.lentL c2):=by kernel_rfl
theorem znw (tga0_2:Tag) (a0_0 a0_1:Int) (a0_2:List D) (c0 c1:Int) (c2:List D):za0 [.agg [.int .i64 a0_0,.int .i64 a0_1,.sl tga0_2 a0_2],.at_ (.agg [.int .i64 c0,.int .i64 c1,.sl .lent c2])]=zgL a0_0 a0_1 (D.lentL a0_2) c0 c1 (D.lentL c2):=zqY tga0_2 a0_0 a0_1 a0_2 c0 c1 c2
def zcv:Ann:={ loops:=[(0,.val (.cell .lent)::.val (.fn1 (121:FuncId) .any)::dd 5 [.val (.cell (.int .i64)),.val (.cell (.int .i64))])] }
noncomputable def zan:Zp:=denP Tryz.prog (zay [(ID.record_Check_1,(.pure [0] za0))]) zcv [0] ID.slices_IndexFunc_record_Item_record_Item
theorem zdO:Sound Tryz.prog ID.slices_IndexFunc_record_Item_record_Item (.pure [0] zan):=zao (zaA [zhN]) zbg ⟨Tryz.f151,by kernel_rfl,by kernel_rfl,by kernel_rfl⟩
noncomputable def zdV:Fact Tryz.prog:=⟨ID.slices_IndexFunc_record_Item_record_Item,(.pure [0] zan),zdO⟩
noncomputable def zbN (za0:Zp) (a0:List D) (c0 c1:Int) (c2:List D):Option D:=
 zb2 (α:=(List D×D×Int×Int×PUnit)×PUnit) (fun again1 ((l2,(x3,(i4,(i5,_)))),_)=>
  brK (decide (i5 < i4))
   (sif (0≤i5) <|
   getK l2 (i5.toNat) fun d6=>
   asAgg d6 fun cs7=>
   zaz ([Lf.int .i64,Lf.int .i64,Lf.sl]) cs7 fun c8=>
   zar (za0 [.agg [.int .i64 c8.1,.int .i64 c8.2.1,.sl c8.2.2.1.1 c8.2.2.1.2],D.at_ x3]) fun r9=>
   asB r9 fun b10=>
   brK b10
    (some (.int .i64 i5))
    (letN (IntKind.i64.wrap (i5+1)) fun n11=>
    again1 (((l2,x3,i4,n11,unit),unit))))
   (some (.int .i64 (-1))))
  (((a0,.agg [.int .i64 c0,.int .i64 c1,.sl .lent c2],(↑(a0.length):Int),(0:Int),unit),unit))
theorem zdN (za0:Zp) (tga0:Tag) (a0:List D) (c0 c1:Int) (c2:List D):denP Tryz.prog (zay [(ID.record_Check_1,(.pure [0] za0))]) zcv [0] ID.slices_IndexFunc_record_Item_record_Item [.sl tga0 a0,.fn 121 [] [.at_ (.agg [.int .i64 c0,.int .i64 c1,.sl .lent c2])]]=zbN za0 (D.lentL a0) c0 c1 (D.lentL c2):=by kernel_rfl
theorem zds (tga0:Tag) (a0:List D) (c0 c1:Int) (c2:List D):zan [.sl tga0 a0,.fn 121 [] [.at_ (.agg [.int .i64 c0,.int .i64 c1,.sl .lent c2])]]=zbN za0 (D.lentL a0) c0 c1 (D.lentL c2):=zdN za0 tga0 a0 c0 c1 c2
def zcl:Ann:={ loops:=[] }
noncomputable def zak:Zp:=denP Tryz.prog (zay [(ID.slices_IndexFunc_record_Item_record_Item,(.pure [0] zan)),(ID.record_Check_1,(.pure [0] za0))]) zcl [0] ID.slices_ContainsFunc_record_Item_record_Item
theorem zdx:Sound Tryz.prog ID.slices_ContainsFunc_record_Item_record_Item (.pure [0] zak):=zao (zaA [zdV,zhN]) zbg ⟨Tryz.f120,by kernel_rfl,by kernel_rfl,by kernel_rfl⟩
noncomputable def zdG:Fact Tryz.prog:=⟨ID.slices_ContainsFunc_record_Item_record_Item,(.pure [0] zak),zdx⟩
noncomputable def zbz (zan za0:Zp) (a0:List D) (c0 c1:Int) (c2:List D):Option D:=
 zar (zan [.sl .lent a0,.fn (121:FuncId) [] [D.at_ (.agg [.int .i64 c0,.int .i64 c1,.sl .lent c2])]]) fun r1=>
 asI .i64 r1 fun i2=>
 some (.bool (decide (i2≥0)))
theorem zdt (zan za0:Zp) (tga0:Tag) (a0:List D) (c0 c1:Int) (c2:List D):denP Tryz.prog (zay [(ID.slices_IndexFunc_record_Item_record_Item,(.pure [0] zan)),(ID.record_Check_1,(.pure [0] za0))]) zcl [0] ID.slices_ContainsFunc_record_Item_record_Item [.sl tga0 a0,.fn 121 [] [.at_ (.agg [.int .i64 c0,.int .i64 c1,.sl .lent c2])]]=zbz zan za0 (D.lentL a0) c0 c1 (D.lentL c2):=by kernel_rfl
theorem zda (tga0:Tag) (a0:List D) (c0 c1:Int) (c2:List D):zak [.sl tga0 a0,.fn 121 [] [.at_ (.agg [.int .i64 c0,.int .i64 c1,.sl .lent c2])]]=zbz zan za0 (D.lentL a0) c0 c1 (D.lentL c2):=zdt zan za0 tga0 a0 c0 c1 c2
def zkg:Ann:={ loops:=[(1,.dead::.box true [(.int .i64),.lent]::dd 18 [.val (.cell .lent),.val (.cell (.int .i64)),.val (.cell (.int .i64))])] }
noncomputable def zbc:Zp:=denP Tryz.prog (zay [(ID.record_fine,(.pure [0] zcn)),(ID.slices_ContainsFunc_record_Item_record_Item,(.pure [0] zak))]) zkg [0] ID.record_Check
theorem zoT:Sound Tryz.prog ID.record_Check (.pure [0] zbc):=zao (zaA [zqW,zdG]) zbg ⟨Tryz.f80,by kernel_rfl,by kernel_rfl,by kernel_rfl⟩
noncomputable def zjh:Fact Tryz.prog:=⟨ID.record_Check,(.pure [0] zbc),zoT⟩
noncomputable def zix (zcn zak:Zp) (a0_0:Int) (a0_1:List D):Option D:=
 brK (decide (a0_0 < 1))
  (some (.int .i64 1))
  (brK (decide (a0_0 > 2147483647))
   (some (.int .i64 1))
   (brK (decide ((↑(a0_1.length):Int) > 3))
    (some (.int .i64 1))
    (zb2 (α:=((Int×List D×PUnit)×List D×Int×Int×PUnit)×PUnit) (fun again1 (((i2,(l3,_)),(l4,(i5,(i6,_)))),_)=>
     brK (decide (i6 < i5))
      (sif (0≤i6) <|
      getK l4 (i6.toNat) fun d7=>
      asAgg d7 fun cs8=>
      zaz ([Lf.int .i64,Lf.int .i64,Lf.sl]) cs8 fun c9=>
      zar (zcn [.agg [.int .i64 c9.1,.int .i64 c9.2.1,.sl c9.2.2.1.1 c9.2.2.1.2]]) fun r10=>
      asB r10 fun b11=>
      brK (!b11)
       (some (.int .i64 1))
       (sif (0≤i6) <|
       sif (i6≤(↑(l3.length):Int)) <|
       sif (i6=i6) <|
       sif (zqE (3:Nat) l3=true) <|
       zar (zak [.sl (zdP Tag.lent false (decide (i6=(↑(l3.length):Int)))) (cutI (0:Int) i6 l3),.fn (121:Nat) [] [D.at_ (.agg [.int .i64 c9.1,.int .i64 c9.2.1,.sl c9.2.2.1.1 c9.2.2.1.2])]]) fun r12=>
       asB r12 fun b13=>
       brK b13
        (some (.int .i64 1))
        (letN (IntKind.i64.wrap (i6+1)) fun n14=>
        again1 ((((i2,l3,unit),l4,i5,n14,unit),unit)))))
      (some (.int .i64 0)))
     ((((a0_0,a0_1,unit),a0_1,(↑(a0_1.length):Int),(0:Int),unit),unit)))))
theorem ztA (zcn zak:Zp) (tga0_1:Tag) (a0_0:Int) (a0_1:List D):denP Tryz.prog (zay [(ID.record_fine,(.pure [0] zcn)),(ID.slices_ContainsFunc_record_Item_record_Item,(.pure [0] zak))]) zkg [0] ID.record_Check [.agg [.int .i64 a0_0,.sl tga0_1 a0_1]]=zix zcn zak a0_0 (D.lentL a0_1):=by kernel_rfl
theorem zpU (tga0_1:Tag) (a0_0:Int) (a0_1:List D):zbc [.agg [.int .i64 a0_0,.sl tga0_1 a0_1]]=zix zcn zak a0_0 (D.lentL a0_1):=ztA zcn zak tga0_1 a0_0 a0_1
def zsA:Ann:={ loops:=[(0,dd 3 (.val (.cell (.int .u32))::dd 5 [.val (.cell .lent),.val (.cell (.int .i64)),.val (.cell (.int .i64))])),(2,dd 3 (.val (.cell (.int .u32))::dd 5 (.val (.cell .lent)::.val (.cell (.int .i64))::.val (.cell (.int .i64))::dd 3 [.val (.cell .sl),.val (.cell (.int .i64)),.val (.cell (.int .i64))]))),(4,dd 3 (.val (.cell (.int .u32))::dd 5 (.val (.cell .lent)::.val (.cell (.int .i64))::.val (.cell (.int .i64))::dd 3 (.val (.cell .sl)::.val (.cell (.int .i64))::.val (.cell (.int .i64))::dd 7 [.val (.cell (.int .i64))]))))] }
noncomputable def zd8:Zp:=denP Tryz.prog (zay []) zsA [0] ID.crc_Sum
theorem zwo:Sound Tryz.prog ID.crc_Sum (.pure [0] zd8):=zao (zaA []) zbg ⟨Tryz.f158,by kernel_rfl,by kernel_rfl,by kernel_rfl⟩
noncomputable def zyb:Fact Tryz.prog:=⟨ID.crc_Sum,(.pure [0] zd8),zwo⟩
noncomputable def zsB (a0:List D):Option D:=
 zb2 (α:=(Int×List D×Int×Int×PUnit)×PUnit) (fun again1 ((i2,(l3,(i4,(i5,_)))),_)=>
  brK (decide (i5 < i4))
   (sif (0≤i5) <|
   getK l3 (i5.toNat) fun d6=>
   asSl d6 fun t7 l8=>
   zb2 (α:=(Int×List D×Int×Int×(Tag×List D)×Int×Int×PUnit)×PUnit) (fun again9 ((i10,(l11,(i12,(i13,((t14,l15),(i16,(i17,_))))))),_)=>
    brK (decide (i17 < i16))
     (sif (0≤i17) <|
     getK l15 (i17.toNat) fun d18=>
     asI .u8 d18 fun i19=>
     letN (IntKind.wrap IntKind.u32 i19) fun n20=>
     letN (bits BinOp.xor IntKind.u32 i10 n20) fun n21=>
     zb2 (α:=(Int×List D×Int×Int×(Tag×List D)×Int×Int×Int×PUnit)×PUnit) (fun again22 ((i23,(l24,(i25,(i26,((t27,l28),(i29,(i30,(i31,_)))))))),_)=>
      brK (decide (i31 < 8))
       (letN (bits BinOp.and IntKind.u32 i23 (1:Int)) fun n32=>
       letN (Int.fdiv i23 (2:Int)) fun n33=>
       brK (n32 == 1)
        (letN (bits BinOp.xor IntKind.u32 n33 (2197175160:Int)) fun n34=>
        letN (IntKind.i64.wrap (i31+1)) fun n35=>
        again22 (((n34,l24,i25,i26,(t27,l28),i29,i30,n35,unit),unit)))
        (letN (IntKind.i64.wrap (i31+1)) fun n36=>
        again22 (((n33,l24,i25,i26,(t27,l28),i29,i30,n36,unit),unit))))
       (letN (IntKind.i64.wrap (i30+1)) fun n37=>
       again9 (((i23,l24,i25,i26,(t27,l28),i29,n37,unit),unit))))
      (((n21,l11,i12,i13,(t14,l15),i16,i17,(0:Int),unit),unit)))
     (letN (IntKind.i64.wrap (i13+1)) fun n38=>
     again1 (((i10,l11,i12,n38,unit),unit))))
    (((i2,l3,i4,i5,(t7,l8),(↑(l8.length):Int),(0:Int),unit),unit)))
   (letN (bits BinOp.xor IntKind.u32 i2 (4294967295:Int)) fun n39=>
   some (.int .u32 n39)))
  ((((4294967295:Int),a0,(↑(a0.length):Int),(0:Int),unit),unit))
theorem zDv (tga0:Tag) (a0:List D):denP Tryz.prog (zay []) zsA [0] ID.crc_Sum [.sl tga0 a0]=zsB (D.lentL a0):=by kernel_rfl
theorem zyc (tga0:Tag) (a0:List D):zd8 [.sl tga0 a0]=zsB (D.lentL a0):=zDv tga0 a0
def zsC:Ann:={ loops:=[] }
noncomputable def zd9:Zp:=denP Tryz.prog (zay [(ID.crc_Sum,(.pure [0] zd8))]) zsC [0] ID.crc_sum
theorem zwp:Sound Tryz.prog ID.crc_sum (.pure [0] zd9):=zao (zaA [zyb]) zbg ⟨Tryz.f149,by kernel_rfl,by kernel_rfl,by kernel_rfl⟩
noncomputable def zyd:Fact Tryz.prog:=⟨ID.crc_sum,(.pure [0] zd9),zwp⟩
noncomputable def zsD (zd8:Zp) (a0 a1:List D):Option D:=
 sif (28≤(↑(a0.length):Int)) <|
 sif (zqE (1:Nat) a0=true) <|
 sif (a1≠[]) <|
 sif (1+a1.length≤4294967296) <|
 sif (zec (1:Nat) a1=true) <|
 sif (0+(1+a1.length)≤List.length ([D.sl (zdP Tag.lent true (decide ((28:Int)=(↑(a0.length):Int)))) (cutI (0:Int) (28:Int) a0)]++a1)) <|
 zar (zd8 [.sl .lent (cut (0:Nat) (1+a1.length) ([.sl (zdP Tag.lent true (decide ((28:Int)=(↑(a0.length):Int)))) (cutI (0:Int) (28:Int) a0)]++a1))]) fun r1=>
 asI .u32 r1 fun i2=>
 some (.int .u32 i2)
theorem zDw (zd8:Zp) (tga0 tga1:Tag) (a0 a1:List D):denP Tryz.prog (zay [(ID.crc_Sum,(.pure [0] zd8))]) zsC [0] ID.crc_sum [.sl tga0 a0,.sl tga1 a1]=zsD zd8 (D.lentL a0) (D.lentL a1):=by kernel_rfl
theorem zye (tga0 tga1:Tag) (a0 a1:List D):zd9 [.sl tga0 a0,.sl tga1 a1]=zsD zd8 (D.lentL a0) (D.lentL a1):=zDw zd8 tga0 tga1 a0 a1
def zqz:Ann:={ loops:=[],pms:=[(.mut,1)],unr:=[(1,5)] }
noncomputable def zdC:Zs:=denS Tryz.prog (zay [(ID.crc_sum,(.pure [0] zd9))]) zqz [0] ID.crc_Seal
theorem ztB:Sound Tryz.prog ID.crc_Seal (.st [(.mut,1)] [0] [] zdC):=za9 (zaA [zyd]) zbg ⟨Tryz.f115,by kernel_rfl,by kernel_rfl,by kernel_rfl⟩
noncomputable def zwq:Fact Tryz.prog:=⟨ID.crc_Seal,(.st [(.mut,1)] [0] [] zdC),ztB⟩
noncomputable def zpV (zd9:Zp) (a0 a1:List D):Option Ans:=
 sif (0+a0.length≤a0.length) <|
 brK ((↑(a0.length):Int) != 32)
  (sif (zdh a0=true) <|
  some (Ans.mk (.bool false) [a0] []))
  (sif (0+a0.length≤a0.length) <|
  zar (zd9 [.sl .lent (cut 0 a0.length a0),.sl .lent a1]) fun r1=>
  asI .u32 r1 fun i2=>
  letN (Int.fdiv i2 (16777216:Int)) fun n3=>
  letN (IntKind.wrap IntKind.u8 n3) fun n4=>
  sif ((28:Nat) < a0.length) <|
  getK a0 ((28:Nat)) fun d5=>
  sif (D.isAgg d5=false) <|
  letN (Int.fdiv i2 (65536:Int)) fun n6=>
  letN (IntKind.wrap IntKind.u8 n6) fun n7=>
  sif ((29:Nat) < a0.length) <|
  getK (List.set a0 (28:Nat) (.int .u8 n4)) ((29:Nat)) fun d8=>
  sif (D.isAgg d8=false) <|
  letN (Int.fdiv i2 (256:Int)) fun n9=>
  letN (IntKind.wrap IntKind.u8 n9) fun n10=>
  sif ((30:Nat) < a0.length) <|
  getK (List.set (List.set a0 (28:Nat) (.int .u8 n4)) (29:Nat) (.int .u8 n7)) ((30:Nat)) fun d11=>
  sif (D.isAgg d11=false) <|
  letN (Int.fdiv i2 (1:Int)) fun n12=>
  letN (IntKind.wrap IntKind.u8 n12) fun n13=>
  sif ((31:Nat) < a0.length) <|
  getK (List.set (List.set (List.set a0 (28:Nat) (.int .u8 n4)) (29:Nat) (.int .u8 n7)) (30:Nat) (.int .u8 n10)) ((31:Nat)) fun d14=>
  sif (D.isAgg d14=false) <|
  sif (zdh (List.set (List.set (List.set (List.set a0 (28:Nat) (D.int .u8 n4)) (29:Nat) (D.int .u8 n7)) (30:Nat) (D.int .u8 n10)) (31:Nat) (D.int .u8 n13))=true) <|
  some (Ans.mk (.bool true) [List.set (List.set (List.set (List.set a0 (28:Nat) (.int .u8 n4)) (29:Nat) (.int .u8 n7)) (30:Nat) (.int .u8 n10)) (31:Nat) (.int .u8 n13)] []))
theorem zBB (zd9:Zp) (tga1:Tag) (a0 a1:List D):denS Tryz.prog (zay [(ID.crc_sum,(.pure [0] zd9))]) zqz [0] ID.crc_Seal [.sl .own a0,.sl tga1 a1] []=zpV zd9 a0 (D.lentL a1):=by kernel_rfl
theorem zwr (tga1:Tag) (a0 a1:List D):zdC [.sl .own a0,.sl tga1 a1] []=zpV zd9 a0 (D.lentL a1):=zBB zd9 tga1 a0 a1
def zji:Ann:={ loops:=[(1,dd 5 (.own 1::.own 1::dd 31 [.val (.cell .lent),.val (.cell (.int .i64)),.val (.cell (.int .i64))])),(3,dd 5 [.own 1,.own 1])] }
noncomputable def zbX:Zp:=denP Tryz.prog (zay [(ID.record_Check,(.pure [0] zbc)),(ID.slices_Clone_byte_byte,(.pure [1] zae)),(ID.crc_Seal,(.st [(.mut,1)] [0] [] zdC))]) zji [1,0] ID.record_Encode
theorem znx:Sound Tryz.prog ID.record_Encode (.pure [1,0] zbX):=zao (zaA [zjh,zdm,zwq]) zbg ⟨Tryz.f76,by kernel_rfl,by kernel_rfl,by kernel_rfl⟩
noncomputable def zoU:Fact Tryz.prog:=⟨ID.record_Encode,(.pure [1,0] zbX),znx⟩
noncomputable def zhO (zbc zae:Zp) (zdC:Zs) (a0_0:Int) (a0_1:List D):Option D:=
 zar (zbc [.agg [.int .i64 a0_0,.sl .lent a0_1]]) fun r1=>
 asI .i64 r1 fun i2=>
 brK (i2 != 0)
  (some (.tup [.sl .own [],.int .i64 i2]))
  (letN (Int.fdiv a0_0 (16777216:Int)) fun n3=>
  letN (IntKind.wrap IntKind.u8 n3) fun n4=>
  letN (Int.fdiv a0_0 (65536:Int)) fun n5=>
  letN (IntKind.wrap IntKind.u8 n5) fun n6=>
  letN (Int.fdiv a0_0 (256:Int)) fun n7=>
  letN (IntKind.wrap IntKind.u8 n7) fun n8=>
  letN (IntKind.wrap IntKind.u8 a0_0) fun n9=>
  letN (IntKind.u8.wrap (↑(a0_1.length):Int)) fun n10=>
  zb2 (α:=(List D×List D×List D×Int×Int×PUnit)×PUnit) (fun again11 ((l12,(l13,(l14,(i15,(i16,_))))),_)=>
   brK (decide (i16 < i15))
    (sif (0≤i16) <|
    getK l14 (i16.toNat) fun d17=>
    asAgg d17 fun cs18=>
    zaz ([Lf.int .i64,Lf.int .i64,Lf.sl]) cs18 fun c19=>
    letN (IntKind.wrap IntKind.u8 c19.1) fun n20=>
    letN (IntKind.wrap IntKind.u8 c19.2.1) fun n21=>
    sif (l12.length+2≤4294967296) <|
    sif (l12.length=l12.length) <|
    zar (zae [.sl c19.2.2.1.1 c19.2.2.1.2]) fun r22=>
    zbn r22 fun l23=>
    sif (0+l23.length≤l23.length) <|
    sif (l13.length+1≤4294967296) <|
    sif (l13.length=l13.length) <|
    letN (IntKind.i64.wrap (i16+1)) fun n24=>
    sif (l12.length+2=List.length (l12++[D.int .u8 n20,D.int .u8 n21])) <|
    sif (l13.length+1=List.length (l13++[D.sl .fresh (cut 0 l23.length l23)])) <|
    again11 (((l12++[.int .u8 n20,.int .u8 n21],l13++[.sl .fresh (cut 0 l23.length l23)],l14,i15,n24,unit),unit)))
    (sif (0+l12.length≤l12.length) <|
    letN (IntKind.i64.wrap ((32:Int) - (↑(l12.length):Int))) fun n25=>
    sif (0≤n25) <|
    sif (l12.length+n25.toNat≤4294967296) <|
    sif (l12.length=l12.length) <|
    sif (l12.length+n25.toNat=List.length (l12++List.replicate (n25.toNat) (D.int .u8 0))) <|
    sif (l13.length=l13.length) <|
    zb2 (α:=(List D×List D×PUnit)×PUnit) (fun again26 ((l27,(l28,_)),_)=>
     sif (0+l28.length≤l28.length) <|
     brK (decide ((↑(l28.length):Int) < 3))
      (sif (l28.length+1≤4294967296) <|
      sif (l28.length=l28.length) <|
      sif (l27.length=l27.length) <|
      sif (l28.length+1=List.length (l28++[D.sl .fresh [D.int .u8 0,D.int .u8 0,D.int .u8 0,D.int .u8 0,D.int .u8 0,D.int .u8 0,D.int .u8 0,D.int .u8 0,D.int .u8 0,D.int .u8 0,D.int .u8 0,D.int .u8 0,D.int .u8 0,D.int .u8 0,D.int .u8 0,D.int .u8 0,D.int .u8 0,D.int .u8 0,D.int .u8 0,D.int .u8 0,D.int .u8 0,D.int .u8 0,D.int .u8 0,D.int .u8 0,D.int .u8 0,D.int .u8 0,D.int .u8 0,D.int .u8 0,D.int .u8 0,D.int .u8 0,D.int .u8 0,D.int .u8 0]])) <|
      again26 (((l27,l28++[.sl .fresh [.int .u8 0,.int .u8 0,.int .u8 0,.int .u8 0,.int .u8 0,.int .u8 0,.int .u8 0,.int .u8 0,.int .u8 0,.int .u8 0,.int .u8 0,.int .u8 0,.int .u8 0,.int .u8 0,.int .u8 0,.int .u8 0,.int .u8 0,.int .u8 0,.int .u8 0,.int .u8 0,.int .u8 0,.int .u8 0,.int .u8 0,.int .u8 0,.int .u8 0,.int .u8 0,.int .u8 0,.int .u8 0,.int .u8 0,.int .u8 0,.int .u8 0,.int .u8 0]],unit),unit)))
      (sif (l27.length=l27.length) <|
      sif (zdh l27=true) <|
      sif (0+l28.length≤l28.length) <|
      zar (zdC [.sl .own l27,.sl .lent (cut 0 l28.length l28)] []) fun r29=>
      zc1 r29.outs fun c30 q31=>
      sif (c30.length=l27.length) <|
      nilK q31 <|
      nilK r29.tbs <|
      asB r29.r fun b32=>
      sif (0+l27.length≤c30.length) <|
      sif (0+l28.length≤l28.length) <|
      sif (cut 0 l28.length l28≠[]) <|
      sif (1+List.length (cut 0 l28.length l28)≤4294967296) <|
      sif (zec (1:Nat) (cut 0 l28.length l28)=true) <|
      sif (1+List.length (cut 0 l28.length l28)=List.length ([D.sl .fresh (cut 0 l27.length c30)]++cut 0 l28.length l28)) <|
      sif (List.all ([D.sl .fresh (cut 0 l27.length c30)]++cut 0 l28.length l28) D.free=true) <|
      some (.tup [.sl .own ([.sl .fresh (cut 0 l27.length c30)]++cut 0 l28.length l28),.int .i64 0])))
     (((l12++List.replicate (n25.toNat) (.int .u8 0),l13,unit),unit))))
   ((([.int .u8 87,.int .u8 82,.int .u8 69,.int .u8 67,.int .u8 n4,.int .u8 n6,.int .u8 n8,.int .u8 n9,.int .u8 n10],[],a0_1,(↑(a0_1.length):Int),(0:Int),unit),unit)))
theorem zsE (zbc zae:Zp) (zdC:Zs) (tga0_1:Tag) (a0_0:Int) (a0_1:List D):denP Tryz.prog (zay [(ID.record_Check,(.pure [0] zbc)),(ID.slices_Clone_byte_byte,(.pure [1] zae)),(ID.crc_Seal,(.st [(.mut,1)] [0] [] zdC))]) zji [1,0] ID.record_Encode [.agg [.int .i64 a0_0,.sl tga0_1 a0_1]]=zhO zbc zae zdC a0_0 (D.lentL a0_1):=by kernel_rfl
theorem zoV (tga0_1:Tag) (a0_0:Int) (a0_1:List D):zbX [.agg [.int .i64 a0_0,.sl tga0_1 a0_1]]=zhO zbc zae zdC a0_0 (D.lentL a0_1):=zsE zbc zae zdC tga0_1 a0_0 a0_1
def zuH:Ann:={ loops:=[] }
noncomputable def zcX:Zp:=denP Tryz.prog (zay []) zuH [0] ID.log_is
theorem zyf:Sound Tryz.prog ID.log_is (.pure [0] zcX):=zao (zaA []) zbg ⟨Tryz.f81,by kernel_rfl,by kernel_rfl,by kernel_rfl⟩
noncomputable def zsF:Fact Tryz.prog:=⟨ID.log_is,(.pure [0] zcX),zyf⟩
noncomputable def zws (a0:List D) (a1:Int):Option D:=
 brK (decide (a1≥0))
  (brK (decide (a1 < (↑(a0.length):Int)))
   (sif (0≤a1) <|
   getK a0 (a1.toNat) fun d1=>
   asB d1 fun b2=>
   some (.bool b2))
   (some (.bool false)))
  (some (.bool false))
theorem zFh (tga0:Tag) (a0:List D) (a1:Int):denP Tryz.prog (zay []) zuH [0] ID.log_is [.sl tga0 a0,.int .i64 a1]=zws (D.lentL a0) a1:=by kernel_rfl
theorem zzy (tga0:Tag) (a0:List D) (a1:Int):zcX [.sl tga0 a0,.int .i64 a1]=zws (D.lentL a0) a1:=zFh tga0 a0 a1
def zoW:Ann:={ loops:=[(0,.dead::.val (.cell .lent)::dd 3 (.own 1::dd 2 [.val (.cell (.int .i64)),.val (.cell (.int .i64))]))],ks:=[(2496,false)] }
noncomputable def zc5:Zs:=denS Tryz.prog (zay [(ID.bench_Bench_Len,(.st [] [0] [(2496,false)] zal)),(ID.log_is,(.pure [0] zcX))]) zoW [1] ID.log_disks
theorem zsG:Sound Tryz.prog ID.log_disks (.st [] [1] [(2496,false)] zc5):=za9 (zaA [zdR,zsF]) zbg ⟨Tryz.f61,by kernel_rfl,by kernel_rfl,by kernel_rfl⟩
noncomputable def ztC:Fact Tryz.prog:=⟨ID.log_disks,(.st [] [1] [(2496,false)] zc5),zsG⟩
noncomputable def zny (zal:Zs) (zcX:Zp) (a0:Nat) (a1:List D) (T0:Tb):Option Ans:=
 zar (zal [.h 2496 a0 0] [T0]) fun r1=>
 nilK r1.outs <|
 nilK r1.tbs <|
 asI .i64 r1.r fun i2=>
 zb2 (α:=(List D×List D×Int×Int×PUnit)×List (List D)×PUnit) (fun again3 ((l4,(l5,(i6,(i7,_)))),(U8,_))=>
  brK (decide (i7 < i6))
   (zar (zcX [.sl .lent l4,.int .i64 i7]) fun r9=>
   asB r9 fun b10=>
   brK b10
    (sif (l5.length+1≤4294967296) <|
    sif (l5.length=l5.length) <|
    letN (IntKind.i64.wrap (i7+1)) fun n11=>
    sif (l5.length+1=List.length (l5++[D.int .i64 i7])) <|
    again3 (((l4,l5++[.int .i64 i7],i6,n11,unit),U8,unit)))
    (letN (IntKind.i64.wrap (i7+1)) fun n12=>
    sif (l5.length=l5.length) <|
    again3 (((l4,l5,i6,n12,unit),U8,unit))))
   (sif (l5.length=l5.length) <|
   sif (List.all l5 D.free=true) <|
   some (Ans.mk (.sl .own l5) [] [])))
  (((a1,[],i2,(0:Int),unit),T0,unit))
theorem zzz (zal:Zs) (zcX:Zp) (tga1:Tag) (a0:Nat) (a1:List D) (T0:Tb):denS Tryz.prog (zay [(ID.bench_Bench_Len,(.st [] [0] [(2496,false)] zal)),(ID.log_is,(.pure [0] zcX))]) zoW [1] ID.log_disks [.h 2496 a0 0,.sl tga1 a1] [T0]=zny zal zcX a0 (D.lentL a1) T0:=by kernel_rfl
theorem ztD (tga1:Tag) (a0:Nat) (a1:List D) (T0:Tb):zc5 [.h 2496 a0 0,.sl tga1 a1] [T0]=zny zal zcX a0 (D.lentL a1) T0:=zzz zal zcX tga1 a0 a1 T0
def zhP:Ann:={ loops:=[],pubs:=[(2,[(3,128,8225)])],ks:=[(8225,true)] }
noncomputable def zbH:Zs:=denS Tryz.prog (zay [(ID.slices_Clone_disk_write_disk_write,(.pure [33] zad))]) zhP [0] ID.disk_Disk_Clone
theorem zlA:Sound Tryz.prog ID.disk_Disk_Clone (.st [] [0] [(8225,true)] zbH):=za9 (zaA [zcQ]) zbg ⟨Tryz.f51,by kernel_rfl,by kernel_rfl,by kernel_rfl⟩
noncomputable def zmw:Fact Tryz.prog:=⟨ID.disk_Disk_Clone,(.st [] [0] [(8225,true)] zbH),zlA⟩
noncomputable def zgk (zad:Zp) (a0:Nat) (T0:Tb):Option Ans:=
 getK T0 a0 fun d1=>
 sif (1666≤d1.length) <|
 sif (List.length (List.map D.hide (List.take (1666:Nat) (List.drop (0:Nat) d1)))=(1666:Nat)) <|
 getK T0 a0 fun d2=>
 getK d2 ((1664:Nat)) fun d3=>
 zbn d3 fun l4=>
 getK T0 a0 fun d5=>
 getK d5 ((1664:Nat)) fun d6=>
 zbn d6 fun l7=>
 sif (0+l4.length≤l7.length) <|
 zar (zad [.sl .lent (cut 0 l4.length l7)]) fun r8=>
 zbn r8 fun l9=>
 sif (0+l9.length≤l9.length) <|
 sif ((1664:Nat) < List.length (spl (0:Nat) (1666:Nat) (List.reverse ([D.bool false,D.sl .nil []]++List.replicate 1664 (D.int .u8 0))) (List.map D.hide (List.take (1666:Nat) (List.drop (0:Nat) d1))))) <|
 sif (some (1666:Nat)=some (List.length (spl (0:Nat) (1666:Nat) (List.reverse ([D.bool false,D.sl .nil []]++List.replicate 1664 (D.int .u8 0))) (List.map D.hide (List.take (1666:Nat) (List.drop (0:Nat) d1)))))) <|
 sif (l9.length=l9.length) <|
 sif (zdh l9=true) <|
 sif (zgu (33:Nat) l9=true) <|
 sif (List.all (List.set (spl (0:Nat) (1666:Nat) (List.reverse ([D.bool false,D.sl .nil []]++List.replicate 1664 (D.int .u8 0))) (List.map D.hide (List.take (1666:Nat) (List.drop (0:Nat) d1)))) (1664:Nat) D.nilp) D.own0ok=true) <|
 sif ((true && decide ((1:Nat)=(1:Nat)) && List.all [(1664:Nat)] fun k=>decide (k < List.length (spl (0:Nat) (1666:Nat) (List.reverse ([D.bool false,D.sl .nil []]++List.replicate 1664 (D.int .u8 0))) (List.map D.hide (List.take (1666:Nat) (List.drop (0:Nat) d1))))))=true) <|
 letT (T0++[List.set (List.map D.own0 (spl (0:Nat) (1666:Nat) (List.reverse ([.bool false,.sl .nil []]++List.replicate 1664 (.int .u8 0))) (List.map D.hide (List.take (1666:Nat) (List.drop (0:Nat) d1))))) (1664:Nat) (.sl .own l9)]) fun U10=>
 some (Ans.mk (.h (8225:Nat) (T0.length) (0:Nat)) [] [U10])
theorem zpW (zad:Zp) (a0:Nat) (T0:Tb):denS Tryz.prog (zay [(ID.slices_Clone_disk_write_disk_write,(.pure [33] zad))]) zhP [0] ID.disk_Disk_Clone [.h 8225 a0 0] [T0]=zgk zad a0 T0:=by kernel_rfl
theorem zmx (a0:Nat) (T0:Tb):zbH [.h 8225 a0 0] [T0]=zgk zad a0 T0:=zpW zad a0 T0
def zhQ:Ann:={ loops:=[],ks:=[(8225,true)] }
noncomputable def zbs:Zs:=denS Tryz.prog (zay [(ID.disk_Disk_put,(.st [] [0,0] [(8225,false)] za5))]) zhQ [0] ID.disk_Disk_Write
theorem zlB:Sound Tryz.prog ID.disk_Disk_Write (.st [] [0] [(8225,true)] zbs):=za9 (zaA [zie]) zbg ⟨Tryz.f116,by kernel_rfl,by kernel_rfl,by kernel_rfl⟩
noncomputable def zmy:Fact Tryz.prog:=⟨ID.disk_Disk_Write,(.st [] [0] [(8225,true)] zbs),zlB⟩
noncomputable def zgl (za5:Zs) (a0:Nat) (a1:Int) (a2:List D) (T0:Tb):Option Ans:=
 zar (za5 [.h 8225 a0 0,.int .i64 a1,.sl .lent a2] [T0]) fun r1=>
 nilK r1.outs <|
 nilK r1.tbs <|
 ze3 r1.r fun ts2=>
 zaz ([Lf.any,Lf.any]) ts2 fun c3=>
 asAgg c3.1 fun cs4=>
 zaz ([Lf.int .i64,Lf.arr (32)]) cs4 fun c5=>
 asI .i64 c3.2.1 fun i6=>
 sif (List.length ([D.int .i64 c5.1]++(c5.2.1++[]))=(33:Nat)) <|
 brK (i6 == 0)
  (getK T0 a0 fun d7=>
  getK d7 ((1664:Nat)) fun d8=>
  zbn d8 fun l9=>
  sif (33≤List.length ([D.int .i64 c5.1]++(c5.2.1++[]))) <|
  zaz ([Lf.int .i64,Lf.arr (32)]) (List.take (33:Nat) (List.drop (0:Nat) ([.int .i64 c5.1]++(c5.2.1++[])))) fun c10=>
  sif (zec (33:Nat) [D.agg ([D.int .i64 c10.1]++(c10.2.1++[]))]=true) <|
  getK T0 a0 fun d11=>
  getK d11 ((1664:Nat)) fun d12=>
  zbn d12 fun l13=>
  sif (l9.length+1≤4294967296) <|
  sif (zec (33:Nat) [D.agg ([D.int .i64 c10.1]++(c10.2.1++[]))]=true) <|
  sif (l9.length=l13.length) <|
  letT (setT T0 a0 (1664:Nat) D.undef) fun U14=>
  getK U14 a0 fun d15=>
  sif (1665≤d15.length) <|
  sif (l9.length+1=List.length (l13++[D.agg ([D.int .i64 c10.1]++(c10.2.1++[]))])) <|
  sif (zdh (l13++[D.agg ([D.int .i64 c10.1]++(c10.2.1++[]))])=true) <|
  sif (zgu (33:Nat) (l13++[D.agg ([D.int .i64 c10.1]++(c10.2.1++[]))])=true) <|
  letT (za7 U14 a0 (1664:Nat) [.sl .own (l13++[.agg ([.int .i64 c10.1]++(c10.2.1++[]))])]) fun U16=>
  some (Ans.mk (.int .i64 i6) [] [U16]))
  (some (Ans.mk (.int .i64 i6) [] [T0]))
theorem zpX (za5:Zs) (tga2:Tag) (a0:Nat) (a1:Int) (a2:List D) (T0:Tb):denS Tryz.prog (zay [(ID.disk_Disk_put,(.st [] [0,0] [(8225,false)] za5))]) zhQ [0] ID.disk_Disk_Write [.h 8225 a0 0,.int .i64 a1,.sl tga2 a2] [T0]=zgl za5 a0 a1 (D.lentL a2) T0:=by kernel_rfl
theorem zmz (tga2:Tag) (a0:Nat) (a1:Int) (a2:List D) (T0:Tb):zbs [.h 8225 a0 0,.int .i64 a1,.sl tga2 a2] [T0]=zgl za5 a0 a1 (D.lentL a2) T0:=zpX za5 tga2 a0 a1 a2 T0
def zfR:Ann:={ loops:=[],ks:=[(2496,true)] }
noncomputable def zbb:Zs:=denS Tryz.prog (zay []) zfR [0] ID.bench_counter_count
theorem ziy:Sound Tryz.prog ID.bench_counter_count (.st [] [0] [(2496,true)] zbb):=za9 (zaA []) zbg ⟨Tryz.f117,by kernel_rfl,by kernel_rfl,by kernel_rfl⟩
noncomputable def zjj:Fact Tryz.prog:=⟨ID.bench_counter_count,(.st [] [0] [(2496,true)] zbb),ziy⟩
noncomputable def zez (a0:Nat) (T0:Tb):Option Ans:=
 getK T0 a0 fun d1=>
 getK d1 ((1:Nat)) fun d2=>
 asI .i64 d2 fun i3=>
 brK (i3 == 0)
  (getK T0 a0 fun d4=>
  sif (3≤d4.length) <|
  sif (zim (List.take (1:Nat) (List.drop (2:Nat) d4))=true) <|
  letT (za7 T0 a0 (2:Nat) [.bool true]) fun U5=>
  some (Ans.mk (.bool false) [] [U5]))
  (getK T0 a0 fun d6=>
  getK d6 ((1:Nat)) fun d7=>
  asI .i64 d7 fun i8=>
  brK (decide (i8 > 0))
   (getK T0 a0 fun d9=>
   getK d9 ((1:Nat)) fun d10=>
   asI .i64 d10 fun i11=>
   letN (IntKind.i64.wrap (i11 - 1)) fun n12=>
   getK T0 a0 fun d13=>
   sif (2≤d13.length) <|
   sif (zim (List.take (1:Nat) (List.drop (1:Nat) d13))=true) <|
   letT (za7 T0 a0 (1:Nat) [.int .i64 n12]) fun U14=>
   getK U14 a0 fun d15=>
   getK d15 ((0:Nat)) fun d16=>
   asI .i64 d16 fun i17=>
   letN (IntKind.i64.wrap (i17+1)) fun n18=>
   getK U14 a0 fun d19=>
   sif (1≤d19.length) <|
   sif (zim (List.take (1:Nat) (List.drop (0:Nat) d19))=true) <|
   letT (za7 U14 a0 (0:Nat) [.int .i64 n18]) fun U20=>
   some (Ans.mk (.bool true) [] [U20]))
   (getK T0 a0 fun d21=>
   getK d21 ((0:Nat)) fun d22=>
   asI .i64 d22 fun i23=>
   letN (IntKind.i64.wrap (i23+1)) fun n24=>
   getK T0 a0 fun d25=>
   sif (1≤d25.length) <|
   sif (zim (List.take (1:Nat) (List.drop (0:Nat) d25))=true) <|
   letT (za7 T0 a0 (0:Nat) [.int .i64 n24]) fun U26=>
   some (Ans.mk (.bool true) [] [U26])))
theorem zlC (a0:Nat) (T0:Tb):denS Tryz.prog (zay []) zfR [0] ID.bench_counter_count [.h 2496 a0 0] [T0]=zez a0 T0:=by kernel_rfl
theorem zjk (a0:Nat) (T0:Tb):zbb [.h 2496 a0 0] [T0]=zez a0 T0:=zlC a0 T0
def zgB:Ann:={ loops:=[],ks:=[(2496,true),(8225,true)] }
noncomputable def zaP:Zs:=denS Tryz.prog (zay [(ID.bench_Bench_may,(.st [] [0] [(2496,false)] zaD)),(ID.disk_Disk_Clone,(.st [] [0] [(8225,true)] zbH)),(ID.disk_Disk_Write,(.st [] [0] [(8225,true)] zbs)),(ID.bench_counter_count,(.st [] [0] [(2496,true)] zbb))]) zgB [0] ID.bench_Bench_Write
theorem zj2:Sound Tryz.prog ID.bench_Bench_Write (.st [] [0] [(2496,true),(8225,true)] zaP):=za9 (zaA [zeY,zmw,zmy,zjj]) zbg ⟨Tryz.f77,by kernel_rfl,by kernel_rfl,by kernel_rfl⟩
noncomputable def zf6:Fact Tryz.prog:=⟨ID.bench_Bench_Write,(.st [] [0] [(2496,true),(8225,true)] zaP),zj2⟩
noncomputable def zfn (zaD zbH zbs zbb:Zs) (a0:Nat) (a1 a2:Int) (a3:List D) (T0 T1:Tb):Option Ans:=
 zar (zaD [.h 2496 a0 0,.int .i64 a1] [T0]) fun r1=>
 nilK r1.outs <|
 nilK r1.tbs <|
 asI .i64 r1.r fun i2=>
 brK (i2 != 0)
  (some (Ans.mk (.int .i64 i2) [] [T0,T1]))
  (getK T0 a0 fun d3=>
  getK d3 ((3:Nat)) fun d4=>
  zbn d4 fun l5=>
  getK T0 a0 fun d6=>
  getK d6 ((3:Nat)) fun d7=>
  zbn d7 fun l8=>
  sif (0≤a1) <|
  sif (a1.toNat < l5.length) <|
  getK T0 a0 fun d9=>
  getK d9 ((3:Nat)) fun d10=>
  zbn d10 fun l11=>
  getK l11 (0+a1.toNat) fun d12=>
  sif (D.isAgg d12=false) <|
  sif (D.width d12=(1:Nat)) <|
  sif (D.cell d12=true) <|
  zar (zbH [d12] [T1]) fun r13=>
  nilK r13.outs <|
  zc1 r13.tbs fun c14 q15=>
  nilK q15 <|
  sif (zkO r13.r=true) <|
  zar (zbs [r13.r,.int .i64 a2,.sl .lent a3] [c14]) fun r16=>
  nilK r16.outs <|
  zc1 r16.tbs fun c17 q18=>
  nilK q18 <|
  asI .i64 r16.r fun i19=>
  brK (i19 != 0)
   (some (Ans.mk (.int .i64 i19) [] [T0,c17]))
   (zar (zbb [.h 2496 a0 0] [T0]) fun r20=>
   nilK r20.outs <|
   zc1 r20.tbs fun c21 q22=>
   nilK q22 <|
   asB r20.r fun b23=>
   brK (!b23)
    (some (Ans.mk (.int .i64 6) [] [c21,c17]))
    (getK c21 a0 fun d24=>
    getK d24 ((3:Nat)) fun d25=>
    zbn d25 fun l26=>
    getK c21 a0 fun d27=>
    getK d27 ((3:Nat)) fun d28=>
    zbn d28 fun l29=>
    sif (0≤a1) <|
    sif (a1.toNat < l26.length) <|
    getK c21 a0 fun d30=>
    getK d30 ((3:Nat)) fun d31=>
    zbn d31 fun l32=>
    getK l32 (0+a1.toNat) fun d33=>
    sif (D.isAgg d33=false) <|
    sif (D.width d33=(1:Nat)) <|
    sif (D.cell d33=true) <|
    zar (zbs [d33,.int .i64 a2,.sl .lent a3] [c17]) fun r34=>
    nilK r34.outs <|
    zc1 r34.tbs fun c35 q36=>
    nilK q36 <|
    asI .i64 r34.r fun i37=>
    some (Ans.mk (.int .i64 i37) [] [c21,c35]))))
theorem znz (zaD zbH zbs zbb:Zs) (tga3:Tag) (a0:Nat) (a1 a2:Int) (a3:List D) (T0 T1:Tb):denS Tryz.prog (zay [(ID.bench_Bench_may,(.st [] [0] [(2496,false)] zaD)),(ID.disk_Disk_Clone,(.st [] [0] [(8225,true)] zbH)),(ID.disk_Disk_Write,(.st [] [0] [(8225,true)] zbs)),(ID.bench_counter_count,(.st [] [0] [(2496,true)] zbb))]) zgB [0] ID.bench_Bench_Write [.h 2496 a0 0,.int .i64 a1,.int .i64 a2,.sl tga3 a3] [T0,T1]=zfn zaD zbH zbs zbb a0 a1 a2 (D.lentL a3) T0 T1:=by kernel_rfl
theorem zkx (tga3:Tag) (a0:Nat) (a1 a2:Int) (a3:List D) (T0 T1:Tb):zaP [.h 2496 a0 0,.int .i64 a1,.int .i64 a2,.sl tga3 a3] [T0,T1]=zfn zaD zbH zbs zbb a0 a1 a2 (D.lentL a3) T0 T1:=znz zaD zbH zbs zbb tga3 a0 a1 a2 a3 T0 T1
def zsH:Ann:={ loops:=[] }
noncomputable def zbO:Zp:=denP Tryz.prog (zay []) zsH [0] ID.log_bad
theorem zwt:Sound Tryz.prog ID.log_bad (.pure [0] zbO):=zao (zaA []) zbg ⟨Tryz.f78,by kernel_rfl,by kernel_rfl,by kernel_rfl⟩
noncomputable def zlD:Fact Tryz.prog:=⟨ID.log_bad,(.pure [0] zbO),zwt⟩
noncomputable def zsI (a0:Int):Option D:=
 brK (a0 != 0)
  (some (.bool (a0 != 5)))
  (some (.bool false))
theorem zDx (a0:Int):denP Tryz.prog (zay []) zsH [0] ID.log_bad [.int .i64 a0]=zsI a0:=by kernel_rfl
theorem zyg (a0:Int):zbO [.int .i64 a0]=zsI a0:=zDx a0
def zhR:Ann:={ loops:=[(1,.val (.cell (.hnd (8225:Nat)))::dd 11 [.view 8225 1664,.val (.cell (.int .i64)),.val (.cell (.int .i64))])],ks:=[(8225,true)] }
noncomputable def zbI:Zs:=denS Tryz.prog (zay []) zhR [0] ID.disk_Disk_Flush
theorem zlE:Sound Tryz.prog ID.disk_Disk_Flush (.st [] [0] [(8225,true)] zbI):=za9 (zaA []) zbg ⟨Tryz.f150,by kernel_rfl,by kernel_rfl,by kernel_rfl⟩
noncomputable def zmA:Fact Tryz.prog:=⟨ID.disk_Disk_Flush,(.st [] [0] [(8225,true)] zbI),zlE⟩
noncomputable def zgm (a0:Nat) (T0:Tb):Option Ans:=
 getK T0 a0 fun d1=>
 getK d1 ((1665:Nat)) fun d2=>
 asB d2 fun b3=>
 brK b3
  (some (Ans.mk (.int .i64 5) [] [T0]))
  (getK T0 a0 fun d4=>
  getK d4 ((1664:Nat)) fun d5=>
  zbn d5 fun l6=>
  getK T0 a0 fun d7=>
  getK d7 ((1664:Nat)) fun d8=>
  zbn d8 fun l9=>
  sif (0+l6.length≤l9.length) <|
  zb2 (α:=(Nat×(Nat×Nat×Nat)×Int×Int×PUnit)×List (List D)×PUnit) (fun again10 ((x11,((x12,(x13,x14)),(i15,(i16,_)))),(U17,_))=>
   brK (decide (i16 < i15))
    (getK U17 x12 fun d18=>
    getK d18 ((1664:Nat)) fun d19=>
    zbn d19 fun l20=>
    sif (0≤i16) <|
    sif (i16.toNat < x14) <|
    getK U17 x12 fun d21=>
    getK d21 ((1664:Nat)) fun d22=>
    zbn d22 fun l23=>
    getK l23 (x13+i16.toNat) fun d24=>
    asAgg d24 fun cs25=>
    zaz ([Lf.int .i64,Lf.arr (32)]) cs25 fun c26=>
    sif (D.width (D.agg ([D.int .i64 c26.1]++(c26.2.1++[])))=(33:Nat)) <|
    sif (List.length ([D.int .i64 c26.1]++(c26.2.1++[]))=(33:Nat)) <|
    sif (33≤List.length ([D.int .i64 c26.1]++(c26.2.1++[]))) <|
    sif (List.length (List.take (32:Nat) (List.drop (1:Nat) ([D.int .i64 c26.1]++(c26.2.1++[]))))=(32:Nat)) <|
    sif (0≤c26.1) <|
    sif (Int.toNat c26.1 < 52) <|
    getK U17 x11 fun d27=>
    sif (0+Int.toNat c26.1*32+32≤d27.length) <|
    sif (List.length (List.take (32:Nat) (List.drop (1:Nat) ([D.int .i64 c26.1]++(c26.2.1++[]))))=(32:Nat)) <|
    sif (zim (List.take (32:Nat) (List.drop (1:Nat) ([D.int .i64 c26.1]++(c26.2.1++[]))))=true) <|
    sif (zim (List.take (32:Nat) (List.drop (0+Int.toNat c26.1*32) d27))=true) <|
    letT (za7 U17 x11 (0+Int.toNat c26.1*32) (List.take (32:Nat) (List.drop (1:Nat) ([.int .i64 c26.1]++(c26.2.1++[]))))) fun U28=>
    letN (IntKind.i64.wrap (i16+1)) fun n29=>
    again10 (((x11,(x12,x13,x14),i15,n29,unit),U28,unit)))
    (getK U17 x11 fun d30=>
    sif (1665≤d30.length) <|
    letT (za7 U17 x11 (1664:Nat) [.sl .own []]) fun U31=>
    some (Ans.mk (.int .i64 0) [] [U31])))
   (((a0,(a0,(0:Nat),l6.length),(↑(l6.length):Int),(0:Int),unit),T0,unit)))
theorem zpY (a0:Nat) (T0:Tb):denS Tryz.prog (zay []) zhR [0] ID.disk_Disk_Flush [.h 8225 a0 0] [T0]=zgm a0 T0:=by kernel_rfl
theorem zmB (a0:Nat) (T0:Tb):zbI [.h 8225 a0 0] [T0]=zgm a0 T0:=zpY a0 T0
def zgC:Ann:={ loops:=[],ks:=[(2496,false),(8225,true)] }
noncomputable def zbl:Zs:=denS Tryz.prog (zay [(ID.bench_Bench_may,(.st [] [0] [(2496,false)] zaD)),(ID.disk_Disk_Flush,(.st [] [0] [(8225,true)] zbI))]) zgC [0] ID.bench_Bench_Flush
theorem zj3:Sound Tryz.prog ID.bench_Bench_Flush (.st [] [0] [(2496,false),(8225,true)] zbl):=za9 (zaA [zeY,zmA]) zbg ⟨Tryz.f118,by kernel_rfl,by kernel_rfl,by kernel_rfl⟩
noncomputable def zky:Fact Tryz.prog:=⟨ID.bench_Bench_Flush,(.st [] [0] [(2496,false),(8225,true)] zbl),zj3⟩
noncomputable def zfo (zaD zbI:Zs) (a0:Nat) (a1:Int) (T0 T1:Tb):Option Ans:=
 zar (zaD [.h 2496 a0 0,.int .i64 a1] [T0]) fun r1=>
 nilK r1.outs <|
 nilK r1.tbs <|
 asI .i64 r1.r fun i2=>
 brK (i2 != 0)
  (some (Ans.mk (.int .i64 i2) [] [T1]))
  (getK T0 a0 fun d3=>
  getK d3 ((3:Nat)) fun d4=>
  zbn d4 fun l5=>
  getK T0 a0 fun d6=>
  getK d6 ((3:Nat)) fun d7=>
  zbn d7 fun l8=>
  sif (0≤a1) <|
  sif (a1.toNat < l5.length) <|
  getK T0 a0 fun d9=>
  getK d9 ((3:Nat)) fun d10=>
  zbn d10 fun l11=>
  getK l11 (0+a1.toNat) fun d12=>
  sif (D.isAgg d12=false) <|
  sif (D.width d12=(1:Nat)) <|
  sif (D.cell d12=true) <|
  zar (zbI [d12] [T1]) fun r13=>
  nilK r13.outs <|
  zc1 r13.tbs fun c14 q15=>
  nilK q15 <|
  asI .i64 r13.r fun i16=>
  some (Ans.mk (.int .i64 i16) [] [c14]))
theorem znA (zaD zbI:Zs) (a0:Nat) (a1:Int) (T0 T1:Tb):denS Tryz.prog (zay [(ID.bench_Bench_may,(.st [] [0] [(2496,false)] zaD)),(ID.disk_Disk_Flush,(.st [] [0] [(8225,true)] zbI))]) zgC [0] ID.bench_Bench_Flush [.h 2496 a0 0,.int .i64 a1] [T0,T1]=zfo zaD zbI a0 a1 T0 T1:=by kernel_rfl
theorem zkz (a0:Nat) (a1:Int) (T0 T1:Tb):zbl [.h 2496 a0 0,.int .i64 a1] [T0,T1]=zfo zaD zbI a0 a1 T0 T1:=znA zaD zbI a0 a1 T0 T1
def zoX:Ann:={ loops:=[(0,.val (.cell (.hnd (2496:Nat)))::dd 7 [.val (.cell .lent),.val (.cell (.int .i64)),.val (.cell (.int .i64))])],ks:=[(2496,false),(8225,true)] }
noncomputable def zbS:Zs:=denS Tryz.prog (zay [(ID.bench_Bench_Flush,(.st [] [0] [(2496,false),(8225,true)] zbl)),(ID.log_bad,(.pure [0] zbO))]) zoX [0] ID.log_flush
theorem zsJ:Sound Tryz.prog ID.log_flush (.st [] [0] [(2496,false),(8225,true)] zbS):=za9 (zaA [zky,zlD]) zbg ⟨Tryz.f79,by kernel_rfl,by kernel_rfl,by kernel_rfl⟩
noncomputable def zmP:Fact Tryz.prog:=⟨ID.log_flush,(.st [] [0] [(2496,false),(8225,true)] zbS),zsJ⟩
noncomputable def znB (zbl:Zs) (zbO:Zp) (a0:Nat) (a1:List D) (T0 T1:Tb):Option Ans:=
 zb2 (α:=(Nat×List D×Int×Int×PUnit)×List (List D)×List (List D)×PUnit) (fun again1 ((x2,(l3,(i4,(i5,_)))),(U6,(U7,_)))=>
  brK (decide (i5 < i4))
   (sif (0≤i5) <|
   getK l3 (i5.toNat) fun d8=>
   asI .i64 d8 fun i9=>
   zar (zbl [.h (2496) x2 (0:Nat),.int .i64 i9] [U6,U7]) fun r10=>
   nilK r10.outs <|
   zc1 r10.tbs fun c11 q12=>
   nilK q12 <|
   asI .i64 r10.r fun i13=>
   zar (zbO [.int .i64 i13]) fun r14=>
   asB r14 fun b15=>
   brK b15
    (some (Ans.mk (.int .i64 i13) [] [c11]))
    (letN (IntKind.i64.wrap (i5+1)) fun n16=>
    again1 (((x2,l3,i4,n16,unit),U6,c11,unit))))
   (some (Ans.mk (.int .i64 0) [] [U7])))
  (((a0,a1,(↑(a1.length):Int),(0:Int),unit),T0,T1,unit))
theorem zzA (zbl:Zs) (zbO:Zp) (tga1:Tag) (a0:Nat) (a1:List D) (T0 T1:Tb):denS Tryz.prog (zay [(ID.bench_Bench_Flush,(.st [] [0] [(2496,false),(8225,true)] zbl)),(ID.log_bad,(.pure [0] zbO))]) zoX [0] ID.log_flush [.h 2496 a0 0,.sl tga1 a1] [T0,T1]=znB zbl zbO a0 (D.lentL a1) T0 T1:=by kernel_rfl
theorem ztE (tga1:Tag) (a0:Nat) (a1:List D) (T0 T1:Tb):zbS [.h 2496 a0 0,.sl tga1 a1] [T0,T1]=znB zbl zbO a0 (D.lentL a1) T0 T1:=zzA zbl zbO tga1 a0 a1 T0 T1
def zsK:Ann:={ loops:=[(1,.val (.cell (.hnd (2496:Nat)))::dd 6 (.own 1::.dead::.own 1::dd 16 [.same 9,.val (.cell (.int .i64)),.val (.cell (.int .i64))])),(3,.val (.cell (.hnd 2496))::dd 6 (.own 1::.dead::.own 1::.dead::.val (.cell (.int .i64))::dd 14 (.same 9::.val (.cell (.int .i64))::.val (.cell (.int .i64))::dd 3 [.same 7,.val (.cell (.int .i64)),.val (.cell (.int .i64))])))],ks:=[(2496,true),(8225,true)] }
noncomputable def zcs:Zs:=denS Tryz.prog (zay [(ID.record_Encode,(.pure [1,0] zbX)),(ID.log_disks,(.st [] [1] [(2496,false)] zc5)),(ID.bench_Bench_Write,(.st [] [0] [(2496,true),(8225,true)] zaP)),(ID.log_bad,(.pure [0] zbO)),(ID.log_flush,(.st [] [0] [(2496,false),(8225,true)] zbS))]) zsK [0] ID.log_Put
theorem zwu:Sound Tryz.prog ID.log_Put (.st [] [0] [(2496,true),(8225,true)] zcs):=za9 (zaA [zoU,ztC,zf6,zlD,zmP]) zbg ⟨Tryz.f35,by kernel_rfl,by kernel_rfl,by kernel_rfl⟩
noncomputable def zqA:Fact Tryz.prog:=⟨ID.log_Put,(.st [] [0] [(2496,true),(8225,true)] zcs),zwu⟩
noncomputable def zsL (zbX:Zp) (zc5 zaP:Zs) (zbO:Zp) (zbS:Zs) (a0:Nat) (a1:List D) (a2_0:Int) (a2_1:List D) (T0 T1:Tb):Option Ans:=
 zar (zbX [.agg [.int .i64 a2_0,.sl .lent a2_1]]) fun r1=>
 ze3 r1 fun ts2=>
 zaz ([Lf.any,Lf.any]) ts2 fun c3=>
 zbn c3.1 fun l4=>
 asI .i64 c3.2.1 fun i5=>
 brK (i5 != 0)
  (some (Ans.mk (.int .i64 i5) [] [T0,T1]))
  (zar (zc5 [.h 2496 a0 0,.sl .lent a1] [T0]) fun r6=>
  nilK r6.outs <|
  nilK r6.tbs <|
  zbn r6.r fun l7=>
  sif (0+l7.length≤l7.length) <|
  sif (l4.length=l4.length) <|
  sif (l7.length=l7.length) <|
  sif (l7.length=l7.length) <|
  zb2 (α:=(Nat×List D×List D×Int×Int×PUnit)×List (List D)×List (List D)×PUnit) (fun again8 ((x9,(l10,(l11,(i12,(i13,_))))),(U14,(U15,_)))=>
   brK (decide (i13 < i12))
    (sif (0≤i13) <|
    sif (i13.toNat < l11.length) <|
    getK l11 (0+i13.toNat) fun d16=>
    asI .i64 d16 fun i17=>
    sif (0+l10.length≤l10.length) <|
    sif (l10.length=l10.length) <|
    sif (l11.length=l11.length) <|
    sif (l11.length=l11.length) <|
    sif (l10.length=l10.length) <|
    zb2 (α:=(Nat×List D×List D×Int×Int×Int×Int×Int×PUnit)×List (List D)×List (List D)×PUnit) (fun again18 ((x19,(l20,(l21,(i22,(i23,(i24,(i25,(i26,_)))))))),(U27,(U28,_)))=>
     brK (decide (i26 < i25))
      (sif (0≤i26) <|
      sif (i26.toNat < l20.length) <|
      getK l20 (0+i26.toNat) fun d29=>
      asSl d29 fun t30 l31=>
      letN (IntKind.i64.wrap (2+i26)) fun n32=>
      zar (zaP [.h (2496) x19 (0:Nat),.int .i64 i22,.int .i64 n32,.sl t30 l31] [U27,U28]) fun r33=>
      nilK r33.outs <|
      zc1 r33.tbs fun c34 q35=>
      zc1 q35 fun c36 q37=>
      nilK q37 <|
      asI .i64 r33.r fun i38=>
      zar (zbO [.int .i64 i38]) fun r39=>
      asB r39 fun b40=>
      brK b40
       (some (Ans.mk (.int .i64 i38) [] [c34,c36]))
       (letN (IntKind.i64.wrap (i26+1)) fun n41=>
       sif (l20.length=l20.length) <|
       sif (l21.length=l21.length) <|
       sif (l21.length=l21.length) <|
       sif (l20.length=l20.length) <|
       again18 (((x19,l20,l21,i22,i23,i24,i25,n41,unit),c34,c36,unit))))
      (letN (IntKind.i64.wrap (i24+1)) fun n42=>
      sif (l20.length=l20.length) <|
      sif (l21.length=l21.length) <|
      sif (l21.length=l21.length) <|
      again8 (((x19,l20,l21,i23,n42,unit),U27,U28,unit))))
     (((x9,l10,l11,i17,i12,i13,(↑(l10.length):Int),(0:Int),unit),U14,U15,unit)))
    (sif (0+l11.length≤l11.length) <|
    zar (zbS [.h (2496) x9 (0:Nat),.sl .lent (cut 0 l11.length l11)] [U14,U15]) fun r43=>
    nilK r43.outs <|
    zc1 r43.tbs fun c44 q45=>
    nilK q45 <|
    asI .i64 r43.r fun i46=>
    some (Ans.mk (.int .i64 i46) [] [U14,c44])))
   (((a0,l4,l7,(↑(l7.length):Int),(0:Int),unit),T0,T1,unit)))
theorem zDy (zbX:Zp) (zc5 zaP:Zs) (zbO:Zp) (zbS:Zs) (tga1 tga2_1:Tag) (a0:Nat) (a1:List D) (a2_0:Int) (a2_1:List D) (T0 T1:Tb):denS Tryz.prog (zay [(ID.record_Encode,(.pure [1,0] zbX)),(ID.log_disks,(.st [] [1] [(2496,false)] zc5)),(ID.bench_Bench_Write,(.st [] [0] [(2496,true),(8225,true)] zaP)),(ID.log_bad,(.pure [0] zbO)),(ID.log_flush,(.st [] [0] [(2496,false),(8225,true)] zbS))]) zsK [0] ID.log_Put [.h 2496 a0 0,.sl tga1 a1,.agg [.int .i64 a2_0,.sl tga2_1 a2_1]] [T0,T1]=zsL zbX zc5 zaP zbO zbS a0 (D.lentL a1) a2_0 (D.lentL a2_1) T0 T1:=by kernel_rfl
theorem zyh (tga1 tga2_1:Tag) (a0:Nat) (a1:List D) (a2_0:Int) (a2_1:List D) (T0 T1:Tb):zcs [.h 2496 a0 0,.sl tga1 a1,.agg [.int .i64 a2_0,.sl tga2_1 a2_1]] [T0,T1]=zsL zbX zc5 zaP zbO zbS a0 (D.lentL a1) a2_0 (D.lentL a2_1) T0 T1:=zDy zbX zc5 zaP zbO zbS tga1 tga2_1 a0 a1 a2_0 a2_1 T0 T1
def zoY:Ann:={ loops:=[(1,.val (.cell (.hnd (2496:Nat)))::.val (.cell .lent)::dd 6 (.own 1::dd 9 [.val (.cell .lent),.val (.cell (.int .i64)),.val (.cell (.int .i64))]))],ks:=[(2496,true),(8225,true)] }
noncomputable def zc6:Zs:=denS Tryz.prog (zay [(ID.record_Check,(.pure [0] zbc)),(ID.bench_Bench_Len,(.st [] [0] [(2496,false)] zal)),(ID.log_is,(.pure [0] zcX)),(ID.bench_Bench_Write,(.st [] [0] [(2496,true),(8225,true)] zaP)),(ID.log_bad,(.pure [0] zbO)),(ID.log_flush,(.st [] [0] [(2496,false),(8225,true)] zbS))]) zoY [0] ID.log_Apply
theorem zsM:Sound Tryz.prog ID.log_Apply (.st [] [0] [(2496,true),(8225,true)] zc6):=za9 (zaA [zjh,zdR,zsF,zf6,zlD,zmP]) zbg ⟨Tryz.f36,by kernel_rfl,by kernel_rfl,by kernel_rfl⟩
noncomputable def ztF:Fact Tryz.prog:=⟨ID.log_Apply,(.st [] [0] [(2496,true),(8225,true)] zc6),zsM⟩
noncomputable def znC (zbc:Zp) (zal:Zs) (zcX:Zp) (zaP:Zs) (zbO:Zp) (zbS:Zs) (a0:Nat) (a1:List D) (a2_0:Int) (a2_1:List D) (T0 T1:Tb):Option Ans:=
 zar (zbc [.agg [.int .i64 a2_0,.sl .lent a2_1]]) fun r1=>
 asI .i64 r1 fun i2=>
 brK (i2 != 0)
  (some (Ans.mk (.int .i64 i2) [] [T0,T1]))
  (zb2 (α:=(Nat×List D×List D×List D×Int×Int×PUnit)×List (List D)×List (List D)×PUnit) (fun again3 ((x4,(l5,(l6,(l7,(i8,(i9,_)))))),(U10,(U11,_)))=>
   brK (decide (i9 < i8))
    (sif (0≤i9) <|
    getK l7 (i9.toNat) fun d12=>
    asAgg d12 fun cs13=>
    zaz ([Lf.int .i64,Lf.int .i64,Lf.sl]) cs13 fun c14=>
    zar (zal [.h (2496) x4 (0:Nat)] [U10]) fun r15=>
    nilK r15.outs <|
    nilK r15.tbs <|
    asI .i64 r15.r fun i16=>
    brK (decide (c14.1≥i16))
     (letN (IntKind.i64.wrap (i9+1)) fun n17=>
     sif (l6.length=l6.length) <|
     again3 (((x4,l5,l6,l7,i8,n17,unit),U10,U11,unit)))
     (zar (zcX [.sl .lent l5,.int .i64 c14.1]) fun r18=>
     asB r18 fun b19=>
     brK (!b19)
      (letN (IntKind.i64.wrap (i9+1)) fun n20=>
      sif (l6.length=l6.length) <|
      again3 (((x4,l5,l6,l7,i8,n20,unit),U10,U11,unit)))
      (zar (zaP [.h (2496) x4 (0:Nat),.int .i64 c14.1,.int .i64 c14.2.1,.sl c14.2.2.1.1 c14.2.2.1.2] [U10,U11]) fun r21=>
      nilK r21.outs <|
      zc1 r21.tbs fun c22 q23=>
      zc1 q23 fun c24 q25=>
      nilK q25 <|
      asI .i64 r21.r fun i26=>
      zar (zbO [.int .i64 i26]) fun r27=>
      asB r27 fun b28=>
      brK b28
       (some (Ans.mk (.int .i64 i26) [] [c22,c24]))
       (sif (l6.length+1≤4294967296) <|
       sif (l6.length=l6.length) <|
       letN (IntKind.i64.wrap (i9+1)) fun n29=>
       sif (l6.length+1=List.length (l6++[D.int .i64 c14.1])) <|
       again3 (((x4,l5,l6++[.int .i64 c14.1],l7,i8,n29,unit),c22,c24,unit))))))
    (sif (0+l6.length≤l6.length) <|
    zar (zbS [.h (2496) x4 (0:Nat),.sl .lent (cut 0 l6.length l6)] [U10,U11]) fun r30=>
    nilK r30.outs <|
    zc1 r30.tbs fun c31 q32=>
    nilK q32 <|
    asI .i64 r30.r fun i33=>
    some (Ans.mk (.int .i64 i33) [] [U10,c31])))
   (((a0,a1,[],a2_1,(↑(a2_1.length):Int),(0:Int),unit),T0,T1,unit)))
theorem zzB (zbc:Zp) (zal:Zs) (zcX:Zp) (zaP:Zs) (zbO:Zp) (zbS:Zs) (tga1 tga2_1:Tag) (a0:Nat) (a1:List D) (a2_0:Int) (a2_1:List D) (T0 T1:Tb):denS Tryz.prog (zay [(ID.record_Check,(.pure [0] zbc)),(ID.bench_Bench_Len,(.st [] [0] [(2496,false)] zal)),(ID.log_is,(.pure [0] zcX)),(ID.bench_Bench_Write,(.st [] [0] [(2496,true),(8225,true)] zaP)),(ID.log_bad,(.pure [0] zbO)),(ID.log_flush,(.st [] [0] [(2496,false),(8225,true)] zbS))]) zoY [0] ID.log_Apply [.h 2496 a0 0,.sl tga1 a1,.agg [.int .i64 a2_0,.sl tga2_1 a2_1]] [T0,T1]=znC zbc zal zcX zaP zbO zbS a0 (D.lentL a1) a2_0 (D.lentL a2_1) T0 T1:=by kernel_rfl
theorem ztG (tga1 tga2_1:Tag) (a0:Nat) (a1:List D) (a2_0:Int) (a2_1:List D) (T0 T1:Tb):zc6 [.h 2496 a0 0,.sl tga1 a1,.agg [.int .i64 a2_0,.sl tga2_1 a2_1]] [T0,T1]=znC zbc zal zcX zaP zbO zbS a0 (D.lentL a1) a2_0 (D.lentL a2_1) T0 T1:=zzB zbc zal zcX zaP zbO zbS tga1 tga2_1 a0 a1 a2_0 a2_1 T0 T1
def zoZ:Ann:={ loops:=[],ks:=[(2496,true),(8225,true)] }
noncomputable def zb6:Zs:=denS Tryz.prog (zay [(ID.update_Plan,(.st [] [0,0] [(2496,false),(8225,false)] zbk)),(ID.log_Put,(.st [] [0] [(2496,true),(8225,true)] zcs)),(ID.log_Apply,(.st [] [0] [(2496,true),(8225,true)] zc6))]) zoZ [0] ID.update_Do
theorem zsN:Sound Tryz.prog ID.update_Do (.st [] [0] [(2496,true),(8225,true)] zb6):=za9 (zaA [zkf,zqA,ztF]) zbg ⟨Tryz.f14,by kernel_rfl,by kernel_rfl,by kernel_rfl⟩
noncomputable def ztH:Fact Tryz.prog:=⟨ID.update_Do,(.st [] [0] [(2496,true),(8225,true)] zb6),zsN⟩
noncomputable def znD (zbk zcs zc6:Zs) (a0:Nat) (a1:List D) (a2_0 a2_1 a2_2 a3:Int) (a4:List D) (a5:Int) (T0 T1:Tb):Option Ans:=
 zar (zbk [.h 2496 a0 0,.sl .lent a1,.agg [.int .i64 a2_0,.int .i64 a2_1,.int .i64 a2_2],.int .i64 a3,.sl .lent a4,.int .i64 a5] [T0,T1]) fun r1=>
 nilK r1.outs <|
 nilK r1.tbs <|
 ze3 r1.r fun ts2=>
 zaz ([Lf.any,Lf.any]) ts2 fun c3=>
 asAgg c3.1 fun cs4=>
 zaz ([Lf.int .i64,Lf.sl]) cs4 fun c5=>
 asI .i64 c3.2.1 fun i6=>
 brK (i6 != 0)
  (some (Ans.mk (.int .i64 i6) [] [T0,T1]))
  (zar (zcs [.h 2496 a0 0,.sl .lent a1,.agg [.int .i64 c5.1,.sl c5.2.1.1 c5.2.1.2]] [T0,T1]) fun r7=>
  nilK r7.outs <|
  zc1 r7.tbs fun c8 q9=>
  zc1 q9 fun c10 q11=>
  nilK q11 <|
  asI .i64 r7.r fun i12=>
  brK (i12 != 0)
   (some (Ans.mk (.int .i64 i12) [] [c8,c10]))
   (zar (zc6 [.h 2496 a0 0,.sl .lent a1,.agg [.int .i64 c5.1,.sl c5.2.1.1 c5.2.1.2]] [c8,c10]) fun r13=>
   nilK r13.outs <|
   zc1 r13.tbs fun c14 q15=>
   zc1 q15 fun c16 q17=>
   nilK q17 <|
   asI .i64 r13.r fun i18=>
   some (Ans.mk (.int .i64 i18) [] [c14,c16])))
theorem zzC (zbk zcs zc6:Zs) (tga1 tga4:Tag) (a0:Nat) (a1:List D) (a2_0 a2_1 a2_2 a3:Int) (a4:List D) (a5:Int) (T0 T1:Tb):denS Tryz.prog (zay [(ID.update_Plan,(.st [] [0,0] [(2496,false),(8225,false)] zbk)),(ID.log_Put,(.st [] [0] [(2496,true),(8225,true)] zcs)),(ID.log_Apply,(.st [] [0] [(2496,true),(8225,true)] zc6))]) zoZ [0] ID.update_Do [.h 2496 a0 0,.sl tga1 a1,.agg [.int .i64 a2_0,.int .i64 a2_1,.int .i64 a2_2],.int .i64 a3,.sl tga4 a4,.int .i64 a5] [T0,T1]=znD zbk zcs zc6 a0 (D.lentL a1) a2_0 a2_1 a2_2 a3 (D.lentL a4) a5 T0 T1:=by kernel_rfl
theorem ztI (tga1 tga4:Tag) (a0:Nat) (a1:List D) (a2_0 a2_1 a2_2 a3:Int) (a4:List D) (a5:Int) (T0 T1:Tb):zb6 [.h 2496 a0 0,.sl tga1 a1,.agg [.int .i64 a2_0,.int .i64 a2_1,.int .i64 a2_2],.int .i64 a3,.sl tga4 a4,.int .i64 a5] [T0,T1]=znD zbk zcs zc6 a0 (D.lentL a1) a2_0 a2_1 a2_2 a3 (D.lentL a4) a5 T0 T1:=zzC zbk zcs zc6 tga1 tga4 a0 a1 a2_0 a2_1 a2_2 a3 a4 a5 T0 T1
def zft:Ann:={ loops:=[] }
noncomputable def zaX:Zp:=denP Tryz.prog (zay [(ID.wattleref01_Width,(.pure [0] zag))]) zft [0] ID.wattleref01_Capacity
theorem zhY:Sound Tryz.prog ID.wattleref01_Capacity (.pure [0] zaX):=zao (zaA [zdp]) zbg ⟨Tryz.f15,by kernel_rfl,by kernel_rfl,by kernel_rfl⟩
noncomputable def ziz:Fact Tryz.prog:=⟨ID.wattleref01_Capacity,(.pure [0] zaX),zhY⟩
noncomputable def zef (zag:Zp) (a0_0 a0_1 a0_2:Int):Option D:=
 zar (zag [.agg [.int .i64 a0_0,.int .i64 a0_1,.int .i64 a0_2]]) fun r1=>
 asI .i64 r1 fun i2=>
 letN (IntKind.i64.wrap (i2*16)) fun n3=>
 some (.int .i64 n3)
theorem zkA (zag:Zp) (a0_0 a0_1 a0_2:Int):denP Tryz.prog (zay [(ID.wattleref01_Width,(.pure [0] zag))]) zft [0] ID.wattleref01_Capacity [.agg [.int .i64 a0_0,.int .i64 a0_1,.int .i64 a0_2]]=zef zag a0_0 a0_1 a0_2:=by kernel_rfl
theorem ziA (a0_0 a0_1 a0_2:Int):zaX [.agg [.int .i64 a0_0,.int .i64 a0_1,.int .i64 a0_2]]=zef zag a0_0 a0_1 a0_2:=zkA zag a0_0 a0_1 a0_2
def zkh:Ann:={ loops:=[],ks:=[(2496,true),(8225,true)] }
noncomputable def zb8:Zs:=denS Tryz.prog (zay [(ID.log_Put,(.st [] [0] [(2496,true),(8225,true)] zcs))]) zkh [0] ID.update_Empty
theorem zo0:Sound Tryz.prog ID.update_Empty (.st [] [0] [(2496,true),(8225,true)] zb8):=za9 (zaA [zqA]) zbg ⟨Tryz.f16,by kernel_rfl,by kernel_rfl,by kernel_rfl⟩
noncomputable def zpZ:Fact Tryz.prog:=⟨ID.update_Empty,(.st [] [0] [(2496,true),(8225,true)] zb8),zo0⟩
noncomputable def ziB (zcs:Zs) (a0:Nat) (a1:List D) (a2:Int) (T0 T1:Tb):Option Ans:=
 zar (zcs [.h 2496 a0 0,.sl .lent a1,.agg [.int .i64 a2,.sl .nil []]] [T0,T1]) fun r1=>
 nilK r1.outs <|
 zc1 r1.tbs fun c2 q3=>
 zc1 q3 fun c4 q5=>
 nilK q5 <|
 asI .i64 r1.r fun i6=>
 some (Ans.mk (.int .i64 i6) [] [c2,c4])
theorem ztJ (zcs:Zs) (tga1:Tag) (a0:Nat) (a1:List D) (a2:Int) (T0 T1:Tb):denS Tryz.prog (zay [(ID.log_Put,(.st [] [0] [(2496,true),(8225,true)] zcs))]) zkh [0] ID.update_Empty [.h 2496 a0 0,.sl tga1 a1,.int .i64 a2] [T0,T1]=ziB zcs a0 (D.lentL a1) a2 T0 T1:=by kernel_rfl
theorem zp0 (tga1:Tag) (a0:Nat) (a1:List D) (a2:Int) (T0 T1:Tb):zb8 [.h 2496 a0 0,.sl tga1 a1,.int .i64 a2] [T0,T1]=ziB zcs a0 (D.lentL a1) a2 T0 T1:=ztJ zcs tga1 a0 a1 a2 T0 T1
def zfu:Ann:={ loops:=[],ks:=[(2496,false)] }
noncomputable def zaY:Zs:=denS Tryz.prog (zay []) zfu [0] ID.bench_counter_Writes
theorem zhZ:Sound Tryz.prog ID.bench_counter_Writes (.st [] [0] [(2496,false)] zaY):=za9 (zaA []) zbg ⟨Tryz.f17,by kernel_rfl,by kernel_rfl,by kernel_rfl⟩
noncomputable def ziC:Fact Tryz.prog:=⟨ID.bench_counter_Writes,(.st [] [0] [(2496,false)] zaY),zhZ⟩
noncomputable def zeg (a0:Nat) (T0:Tb):Option Ans:=
 getK T0 a0 fun d1=>
 getK d1 ((0:Nat)) fun d2=>
 asI .i64 d2 fun i3=>
 some (Ans.mk (.int .i64 i3) [] [])
theorem zkB (a0:Nat) (T0:Tb):denS Tryz.prog (zay []) zfu [0] ID.bench_counter_Writes [.h 2496 a0 0] [T0]=zeg a0 T0:=by kernel_rfl
theorem ziD (a0:Nat) (T0:Tb):zaY [.h 2496 a0 0] [T0]=zeg a0 T0:=zkB a0 T0
def zgD:Ann:={ loops:=[],ks:=[(2496,true),(8225,true)] }
noncomputable def za2:Zp:=denT Tryz.prog (zay [(ID.bench_New,(.st [] [0,0] [(2496,true),(8225,true)] zbx)),(ID.wattleplay_Sector,(.pure [1] zau)),(ID.update_Plan,(.st [] [0,0] [(2496,false),(8225,false)] zbk))]) zgD [0] ID.wattlelaw15_wakes
theorem zj4:Sound Tryz.prog ID.wattlelaw15_wakes (.pure [0] za2):=zup (zaA [zmJ,zee,zkf]) zbg ⟨Tryz.f18,by kernel_rfl,by kernel_rfl,by kernel_rfl⟩
noncomputable def zkC:Fact Tryz.prog:=⟨ID.wattlelaw15_wakes,(.pure [0] za2),zj4⟩
noncomputable def zfp (zbx:Zs) (zau:Zp) (zbk:Zs):Option D:=
 zar (zbx [.int .i64 3] [[],[]]) fun r1=>
 nilK r1.outs <|
 zc1 r1.tbs fun c2 q3=>
 zc1 q3 fun c4 q5=>
 nilK q5 <|
 ze3 r1.r fun ts6=>
 zaz ([Lf.any,Lf.any]) ts6 fun c7=>
 sif (zkO c7.1=true) <|
 asI .i64 c7.2.1 fun i8=>
 brK (i8 != 0)
  (some (.bool false))
  (zpe c7.1 fun b9=>
  brK b9
   (some (.bool false))
   (zar (zau [.int .i64 4]) fun r10=>
   zbn r10 fun l11=>
   sif (0+l11.length≤l11.length) <|
   zar (zbk [c7.1,.sl .full [.bool true,.bool true,.bool true],.agg [.int .i64 5,.int .i64 3,.int .i64 1],.int .i64 3,.sl .lent (cut 0 l11.length l11),.int .i64 1] [c2,c4]) fun r12=>
   nilK r12.outs <|
   nilK r12.tbs <|
   ze3 r12.r fun ts13=>
   zaz ([Lf.any,Lf.any]) ts13 fun c14=>
   asAgg c14.1 fun cs15=>
   zaz ([Lf.int .i64,Lf.sl]) cs15 fun c16=>
   asI .i64 c14.2.1 fun i17=>
   brK (i17 == 0)
    (brK ((↑(List.length c16.2.1.2):Int) == 2)
     (some (.bool (c16.1 == 1)))
     (some (.bool false)))
    (some (.bool false))))
theorem znE (zbx:Zs) (zau:Zp) (zbk:Zs):denT Tryz.prog (zay [(ID.bench_New,(.st [] [0,0] [(2496,true),(8225,true)] zbx)),(ID.wattleplay_Sector,(.pure [1] zau)),(ID.update_Plan,(.st [] [0,0] [(2496,false),(8225,false)] zbk))]) zgD [0] ID.wattlelaw15_wakes []=sif (D.nohL []=true) (zfp zbx zau zbk ):=by kernel_rfl
theorem zkD:za2 []=sif (D.nohL []=true) (zfp zbx zau zbk ):=znE zbx zau zbk
end Wf

namespace Wf
open Go Go.RowKit Go.Proofs
set_option linter.unusedSimpArgs false
set_option linter.unusedVariables false
theorem zyi (c:Int):zaV [.sl .full [.int .i64 1,.int .i64 2,.int .i64 4],.int .i64 c]=some (.bool (c == 1 || c == 2 || c == 4)):=by
 rw [zg5];unfold zdM;rw [ze8];unfold zdq;obtain ⟨m,hm⟩:=zDk
 by_cases h1:c=1<;>by_cases h2:c=2<;>by_cases h4:c=4<;>
  simp [zb2,hm,fixN,zcd,h1,h2,h4,zav]<;>omega
theorem zjl (l d c:Int):zaC [gD l d c]=some (iD (if zfr l d c then 0 else 1)):=by
 rw [zsi];unfold zlh;have hc:=zyi c;unfold zfr;obtain ⟨q,hq⟩:∃ q,(c == 1 || c == 2 || c == 4)=q:=⟨_,rfl⟩;rw [hq] at hc ⊢
 by_cases h5:l=5
 ·subst h5
  by_cases h3:d < 3<;>by_cases h8:8 < d<;>cases q<;>simp [zBe,ziI,setD,hc,zcd,h3,h8]<;>omega
 ·by_cases h6:l=6
  ·subst h6
   by_cases h3:d < 4<;>by_cases h8:8 < d<;>cases q<;>simp [zBe,ziI,setD,hc,zcd,h3,h8]<;>omega
  ·simp [zBe,ziI,setD,hc,zcd,h5,h6]
theorem zsO (l d c:Int):zbi [gD l d c]=some (iD (zm6 l d c)):=by
 rw [zqH];unfold zjS zm6;rw [zjl];cases h:zfr l d c
 ·simp [zcd]
 ·have:=ziZ.1 h;simp [zcd]
  exact zav (by omega) (by omega)
theorem zuI (l d c:Int):zai [gD l d c]=some (iD (zgQ l d c)):=by
 rw [zsj];unfold zlj zgQ;rw [zjl,zsO];unfold zm6;cases h:zfr l d c
 ·simp [zcd]
 ·have:=ziZ.1 h;simp [zcd]
  exact zav (by omega) (by omega)
theorem zwv (l d c:Int):zbQ [gD l d c]=some (iD (capG l d c)):=by
 rw [zoA];unfold zhD capG;rw [zuI];have:=zE2 l d c;simp
 exact zav (by omega) (by omega)
theorem zo1 (l d c:Int):zah [gD l d c]=some (.bool (zfr l d c)):=by
 rw [zkm];unfold zfh zfr
 by_cases h5:l=5
 ·subst h5
  by_cases h3:3≤d<;>by_cases h8:d≤8<;>simp [zcd,h3,h8]<;>by_cases h1:c=1<;>by_cases h2:c=2<;>simp [h1,h2]<;>omega
 ·by_cases h6:l=6
  ·subst h6
   by_cases h3:4≤d<;>by_cases h8:d≤8<;>simp [zcd,h3,h8]<;>by_cases h1:c=1<;>by_cases h2:c=2<;>simp [h1,h2]<;>omega
  ·simp [zcd,h5,h6]
theorem zuJ (l d c:Int):zaK [gD l d c]=some (iD (zm6 l d c)):=by
 rw [zjG];unfold zeR zm6;rw [zo1];cases h:zfr l d c
 ·simp [zcd]
 ·have:=ziZ.1 h;simp [zcd]
  exact zav (by omega) (by omega)
theorem zDz (l d c:Int):zag [gD l d c]=some (iD (zgQ l d c)):=by
 rw [zkn];unfold zfi zgQ;rw [zo1,zuJ];unfold zm6;cases h:zfr l d c
 ·simp [zcd]
 ·have:=ziZ.1 h;simp [zcd]
  exact zav (by omega) (by omega)
theorem zsP (a n:Int) (h:1≤n) (h9:n < 1000000000):zac [.int .i64 a,.int .i64 n]=some (iD (a % n)):=by
 rw [zkl];unfold zfg;have hm:=zBs a n h
 have hlt:=Int.lt_tmod_of_pos a (show 0 < n by omega)
 have h1:¬ n < 1:=by omega
 have h0:n≠0:=by omega
 rcases hm with ⟨k1,k2⟩ | ⟨k1,k2⟩
 ·simp [zcd,h1,h0,Int.not_lt.2 k1,k2]
 ·simp [zcd,h1,h0,k1,k2]
  exact zav (by omega) (by omega)
theorem zDA (n:Int):zbC [.int .i64 n]=some (zxV n).D:=by
 rw [zmc];unfold zgc
 have w5:IntKind.i64.wrap (5+n % 2)=5+n % 2:=zav (by omega) (by omega)
 have w3:IntKind.i64.wrap (3+qn n 6 % 4)=3+qn n 6 % 4:=zav (by omega) (by omega)
 have w4:IntKind.i64.wrap (4+qn n 6 % 4)=4+qn n 6 % 4:=zav (by omega) (by omega)
 have w12:IntKind.i64.wrap (n % 12 - 1)=n % 12 - 1:=zav (by omega) (by omega)
 have w9:IntKind.i64.wrap (n % 9 - 1)=n % 9 - 1:=zav (by omega) (by omega)
 have h0:0≤qn n 2 % 3:=by omega
 have h3:qn n 2 % 3 < 3:=by omega
 have e2:IntKind.i64.wrap (n.tdiv 2)=qn n 2:=rfl;have e6:IntKind.i64.wrap (n.tdiv 6)=qn n 6:=rfl;have e24:IntKind.i64.wrap (n.tdiv 24)=qn n 24:=rfl
 simp only [zsP _ _ (show (1:Int)≤2 by decide) (show (2:Int) < 1000000000 by decide),zsP _ _ (show (1:Int)≤3 by decide) (show (3:Int) < 1000000000 by decide),zsP _ _ (show (1:Int)≤4 by decide) (show (4:Int) < 1000000000 by decide),
  zsP _ _ (show (1:Int)≤9 by decide) (show (9:Int) < 1000000000 by decide),zsP _ _ (show (1:Int)≤12 by decide) (show (12:Int) < 1000000000 by decide),zsP _ _ (show (1:Int)≤40 by decide) (show (40:Int) < 1000000000 by decide),
  zab,iD,zaR,zam,w5,w3,w4,w12,w9,e2,e6,e24,zaa h0,zE3 _ h0 h3]
 unfold Geo.D zxV
 have hl:n % 2=0∨n % 2=1:=by omega
 by_cases k1:qn n 24 % 40=36<;>by_cases k2:qn n 24 % 40=37<;>by_cases k3:qn n 24 % 40=38<;>by_cases k4:qn n 24 % 40=39<;>rcases hl with hl | hl<;>
  simp [zcd,k1,k2,k3,k4,hl]<;>omega
theorem zDB (n:Int):zbD [.int .i64 n]=some (zxW n).D:=by
 rw [zme];unfold zgd;rw [zDA];unfold zxW;obtain ⟨l,d,c⟩:=zxV n;simp only [zab,Geo.D,zet,zch,zcr,zo1,zbo,Geo.ok]
 by_cases h:zfr l d c=true
 ·simp [zcd,h]
 ·simp only [Bool.not_eq_true] at h; simp [zcd,h]
theorem zlF (g:Geo):zai [gD g.l g.d g.c]=some (iD g.width):=zuI ..
theorem zHn (g:Geo):zbQ [gD g.l g.d g.c]=some (iD g.cap):=zwv ..
theorem zuK (g:Geo):zag [gD g.l g.d g.c]=some (iD g.width):=zDz ..
section
variable (a b c x y z k:Int)
end
section
variable (g:Geo) (a row k:Int)
theorem zww:zbp [g.D,.int .i64 row]=some (.bool (zcI g row)):=by
 unfold Geo.D;rw [zv2];unfold zpC;rw [zjl];unfold zcI Geo.ok;cases zfr g.l g.d g.c<;>simp [zcd]<;>(by_cases h:0≤row<;>simp [h])
theorem zwx:zax [g.D,.int .i64 row]=some (.bool (zcI g row)):=by
 unfold Geo.D;rw [zk7];unfold zfH;rw [zo1];unfold zcI Geo.ok;cases zfr g.l g.d g.c<;>simp [zcd]<;>(by_cases h:0≤row<;>simp [h])
theorem zyj:zaB [g.D,.int .i64 row]=some (.tup [iD (parP g row).1,iD (parP g row).2]):=by
 have hi:=zww g row;unfold Geo.D at*;rw [zpD];unfold zis;rw [hi];unfold parP;cases h:zcI g row
 ·simp [zcd]
 ·obtain ⟨hk,h0,h1⟩:=zbJ.1 h;have hd:=ok_d hk;have hv:=zHj hk h0;have hp:=zmI hk row
  have w1:IntKind.i64.wrap (g.d - 1)=g.d - 1:=zav (by omega) (by omega)
  have w2:IntKind.i64.wrap (row.tdiv g.c)=row / g.c:=by rw [zAD hk h0]; exact zav (by omega) (by omega)
  have w3:IntKind.i64.wrap (g.d - 1 - (row / g.c).tmod g.d)=parA g row:=by rw [zon hv.1]; exact zav (by unfold parA at hp; omega) (by unfold parA at hp; omega)
  have w4:IntKind.i64.wrap (parA g row+1)=parA g row+1:=zav (by omega) (by omega)
  have t4:(parA g row+1).tmod g.d=(parA g row+1) % g.d:=zon (by omega)
  by_cases h5:g.l=5
  ·simp [zcd,show g.c≠0 by omega,show g.d≠0 by omega,w1,w2,w3,h5]
  ·simp [zcd,show g.c≠0 by omega,show g.d≠0 by omega,w1,w2,w3,h5,w4,t4]
theorem zDC:zaJ [g.D,.int .i64 row]=some (.tup [iD (parP g row).1,iD (parP g row).2]):=by
 have hi:=zwx g row;unfold Geo.D at*;rw [zjL];unfold zeT;rw [hi];unfold parP;cases h:zcI g row
 ·simp [zcd]
 ·obtain ⟨hk,h0,h1⟩:=zbJ.1 h;have hd:=ok_d hk;have hv:=zHj hk h0;have hp:=zmI hk row
  have w1:IntKind.i64.wrap (g.d - 1)=g.d - 1:=zav (by omega) (by omega)
  have w2:IntKind.i64.wrap (row.tdiv g.c)=row / g.c:=by rw [zAD hk h0]; exact zav (by omega) (by omega)
  have w3:IntKind.i64.wrap (g.d - 1 - (row / g.c).tmod g.d)=parA g row:=by rw [zon hv.1]; exact zav (by unfold parA at hp; omega) (by unfold parA at hp; omega)
  have w4:IntKind.i64.wrap (parA g row+1)=parA g row+1:=zav (by omega) (by omega)
  have t4:(parA g row+1).tmod g.d=(parA g row+1) % g.d:=zon (by omega)
  by_cases h5:g.l=5
  ·simp [zcd,show g.c≠0 by omega,show g.d≠0 by omega,w1,w2,w3,h5]
  ·simp [zcd,show g.c≠0 by omega,show g.d≠0 by omega,w1,w2,w3,h5,w4,t4]
theorem zuL:zaW [g.D,.int .i64 row,.int .i64 k]=some (iD (zcO g row k)):=by
 have hi:=zww g row;have hp:=zyj g row;unfold Geo.D at*;rw [zsl];unfold zlk;rw [hi,hp,zlF,zsO];unfold zcO;cases h:zcI g row
 ·simp [zcd]
 ·obtain ⟨hk,h0,h1⟩:=zbJ.1 h;have hd:=ok_d hk;have hw:=zca hk;have hb:=zxX hk;have hl:=zei.1 hk;have hpa:=zmI hk row
  by_cases k0:k < 0
  ·simp [zcd,k0,show ¬ 0≤k by omega]
  ·by_cases k1:g.width≤k
   ·simp [zcd,k0,k1,show ¬ k < g.width by omega]
   ·have w1:IntKind.i64.wrap (parA g row+(g.l - 4))=parA g row+(g.l - 4):=zav (by omega) (by omega)
    have w2:IntKind.i64.wrap (parA g row+(g.l - 4)+k)=parA g row+(g.l - 4)+k:=zav (by omega) (by omega)
    have t2:(parA g row+(g.l - 4)+k).tmod g.d=(parA g row+(g.l - 4)+k) % g.d:=zon (by omega)
    have hp1:(parP g row).1=parA g row:=by unfold parP; simp [h]
    simp [zcd,k0,k1,show 0≤k by omega,show k < g.width by omega,hb,hp1,w1,w2,t2,show g.d≠0 by omega]
theorem zFi:zbh [g.D,.int .i64 row,.int .i64 k]=some (iD (zcO g row k)):=by
 have hi:=zwx g row;have hp:=zDC g row;unfold Geo.D at*;rw [zk9];unfold zfJ;rw [hi,hp,zuK,zuJ];unfold zcO;cases h:zcI g row
 ·simp [zcd]
 ·obtain ⟨hk,h0,h1⟩:=zbJ.1 h;have hd:=ok_d hk;have hw:=zca hk;have hb:=zxX hk;have hl:=zei.1 hk;have hpa:=zmI hk row
  by_cases k0:k < 0
  ·simp [zcd,k0,show ¬ 0≤k by omega]
  ·by_cases k1:g.width≤k
   ·simp [zcd,k0,k1,show ¬ k < g.width by omega]
   ·have w1:IntKind.i64.wrap (parA g row+(g.l - 4))=parA g row+(g.l - 4):=zav (by omega) (by omega)
    have w2:IntKind.i64.wrap (parA g row+(g.l - 4)+k)=parA g row+(g.l - 4)+k:=zav (by omega) (by omega)
    have t2:(parA g row+(g.l - 4)+k).tmod g.d=(parA g row+(g.l - 4)+k) % g.d:=zon (by omega)
    have hp1:(parP g row).1=parA g row:=by unfold parP; simp [h]
    simp [zcd,k0,k1,show 0≤k by omega,show k < g.width by omega,hb,hp1,w1,w2,t2,show g.d≠0 by omega]
theorem zFj:zdg [g.D,.int .i64 a]=some (ofD (ofP g a)):=by
 have hdk:=fun row k=>zuL g row k
 unfold Geo.D at*;rw [zv4];unfold zpE;rw [zlF,zHn];unfold ofP ofD
 by_cases h0:a < 0
 ·simp [zcd,h0,show ¬ 0≤a by omega]
 ·by_cases h1:g.cap≤a
  ·simp [zcd,h0,h1,show ¬ a < g.cap by omega]
  ·have h0:0≤a:=by omega
   have h1:a < g.cap:=by omega
   have hk:=zAC h0 h1;have hd:=ok_d hk;have hw:=zca hk;have hv:=zHj hk h0;have hr:=zvW h0 h1;have hca:g.cap=g.width*16:=rfl;have hvw:a / g.c / g.width≤a / g.c:=Int.ediv_le_self _ hv.1
   have w1:IntKind.i64.wrap (a.tdiv g.c)=a / g.c:=by rw [zAD hk h0]; exact zav (by omega) (by omega)
   have w2:IntKind.i64.wrap ((a / g.c).tdiv g.width)=a / g.c / g.width:=by rw [Int.tdiv_eq_ediv_of_nonneg hv.1]; exact zav (by omega) (by omega)
   have hm:0≤a / g.c / g.width*g.c:=Int.mul_nonneg hr.2.2.1 (by omega)
   have w3:IntKind.i64.wrap (a / g.c / g.width*g.c)=a / g.c / g.width*g.c:=zav (by omega) (by omega)
   have w4:IntKind.i64.wrap (a / g.c / g.width*g.c+a.tmod g.c)=rowG g a:=by rw [zon h0]; exact zav (by omega) (by omega)
   have t5:(a / g.c).tmod g.width=zcP g a:=zon hv.1
   simp [zcd,h0,h1,show ¬ a < 0 by omega,show ¬ g.cap≤a by omega,w1,w2,w3,w4,t5,show g.c≠0 by omega,show g.width≠0 by omega,hdk]
end
section
variable (l d c a row k:Int)
end
section
variable (g:Geo) (row k:Int)
theorem zyk (h:zcI g row=true) (k0:0≤k) (k1:k≤8):zb7 [gD g.l g.d g.c,.int .i64 row,.int .i64 k]=some (iD (numP g row k)):=by
 obtain ⟨hk,h0,h1⟩:=zbJ.1 h;obtain ⟨w1,w2,w3,w4,w5⟩:=zHk hk h0 h1 k0 k1;have hd:=ok_d hk;rw [zpP];unfold ziw;rw [zlF]
 simp [show g.c≠0 by omega,w1,w2,w3,w4,w5]
theorem zBC:zbR [g.D,.int .i64 row]=some (.sl .own (zDm g row)):=by
 have hi:=zww g row;unfold Geo.D at*;rw [zoR];unfold zhM;rw [hi,zlF];unfold zDm;cases h:zcI g row
 ·simp [zcd]
 ·obtain ⟨hk,h0,h1⟩:=zbJ.1 h;have hw:=zca hk;simp only [zab,zbo,zcd,iD,zaR,Bool.not_true,Bool.false_eq_true,if_false,if_true]
  refine zgb (fun a=>(g.width - a.1.2.2.2.2.1).toNat) (fun _=>some (D.sl Tag.own (numD g row g.width.toNat))) (fun a=>∃ n:Nat,n≤g.width∧
   a=((row,(g.l,g.d,g.c,PUnit.unit),numD g row n,g.width,(n:Int),PUnit.unit),PUnit.unit)) ?_ ⟨0,by omega,rfl⟩ ?_
  rotate_left
  ·simp; omega
  rintro again _ ⟨n,hn,rfl⟩ ih
  dsimp only
  by_cases hl:(n:Int) < g.width
  ·have:=ih _ ⟨n+1,by omega,rfl⟩ (by dsimp only; omega)
   have wn:IntKind.i64.wrap ((n:Int)+1)=(n:Int)+1:=zav (by omega) (by omega)
   rw [zDn] at this
   simp [hl,zyk g row n h (by omega) (by omega),zAE,wn,show n+1≤4294967296 by omega]
   simpa using this
  ·have hnw:g.width.toNat=n:=by omega
   simp only [hl,decide_false,hnw,Bool.false_eq_true,if_false];simp [zAE,zDo]
end
section
variable (l d c row k:Int)
end
end Wf

namespace Wf
open Go Go.RowKit Go.Proofs
set_option linter.unusedSimpArgs false
set_option linter.unusedVariables false
end Wf

namespace Wf
open Go Go.RowKit Go.Proofs
set_option linter.unusedSimpArgs false
set_option linter.unusedVariables false
theorem znF (a n:Int) (h:1≤n) (h9:n < 1000000000):zac [.int .i64 a,.int .i64 n]=some (.int .i64 (a % n)):=zsP a n h h9
theorem zeb {R:Type} (a:Int) {b:List Int} (h:b.length=32) (f:LfT [.int .i64,.arr 32]→Option R):zaz [.int .i64,.arr 32] (.int .i64 a::uL b) f=f (a,uL b,()):=by
 have e1:(uL b).take 32=uL b:=List.take_of_length_le (by simp [h])
 have e2:(uL b).drop 32=[]:=List.drop_of_length_le (by simp [h])
 simp [zaz,zd6,Lf.get,h,e1,e2]
theorem zp1 {R:Type} {b:List Int} (h:b.length=32) (f:LfT [.arr 32]→Option R):zaz [.arr 32] (uL b) f=f (uL b,()):=by
 have e1:(uL b).take 32=uL b:=List.take_of_length_le (by simp [h])
 have e2:(uL b).drop 32=[]:=List.drop_of_length_le (by simp [h])
 simp [zaz,zd6,Lf.get,h,e1,e2]
theorem zIO {T:Tb} {i:Nat} {s:DS} (h:T[i]? =some s.cells) (hs:s.Ok) (a:Int):za4 [.h kD i 0,.int .i64 a] [T]=some (Ans.mk (.int .i64 (s.may a)) [] []):=by
 rw [zow];unfold zhA DS.may;rw [zap h,zap (zoh hs.len),zbo];cases hf:s.failed
 ·by_cases h0:a < 0
  ·simp [zcd,h0]
  ·by_cases h1:52≤a
   ·simp [zcd,h0,h1]
   ·simp [zcd,h0,h1]
 ·simp [zcd]
theorem zFk {T:Tb} {i:Nat} {s:DS} (h:T[i]? =some s.cells) (hs:s.Ok):zbw [.h kD i 0] [T]=some (Ans.mk (.bool s.failed) [] []):=by
 rw [zln];unfold zfN;rw [zap h,zap (zoh hs.len),zbo]
theorem znG {b:List Int} (h:b.length≤4294967296) (tg:Tag):zae [.sl tg (uL b)]=some (.sl .own (uL b)):=by
 cases b with
 | nil=>exact zg7 tg
 | cons n b=>
  show zae [.sl tg (.int .u8 n::uL b)]=some (.sl .own (.int .u8 n::uL b));rw [zhH,zcN];unfold zdU
  have h1:(D.lent (.int .u8 n)::uL b)=uL (n::b):=by simp [uL]
  rw [h1];simp only [zcC,zEZ,zhr,zaa,h];simp [uL]
theorem zGh (w:Int×List Int):(wD w).free=true:=by
 simp only [wD,D.free,D.freeL,zq8,Bool.and_self]
theorem zGi (w:Int×List Int):(wD w).lent=wD w:=by
 simp only [wD,D.lent,D.lentL,zcN]
theorem zDD (p:List (Int×List Int)):D.lentL (p.map wD)=p.map wD:=by
 induction p with
 | nil=>rfl
 | cons w p ih=>simp [ih,zGi]
theorem zHo {p:List (Int×List Int)} (h:∀ w∈p,Sec w.2):zec 33 (p.map wD)=true:=by
 simp only [zec,List.all_map,List.all_eq_true];intro w hw;have:=(h w hw).len;simp [wD,D.width,D.isAgg,D.cell,this]
theorem zDE {p:List (Int×List Int)} (hp:∀ w∈p,Sec w.2) (h:p.length≤4294967296) (tg:Tag):zad [.sl tg (p.map wD)]=some (.sl .own (p.map wD)):=by
 cases p with
 | nil=>exact zel tg
 | cons w p=>
  have hok:=zHo hp;rw [List.map_cons] at hok ⊢;rw [zew,zDD,zGi];unfold zck
  have hf:(wD w::p.map wD).all D.free=true:=by
   rw [←List.map_cons (f:=wD),List.all_map,List.all_eq_true]; intro w _; exact zGh w
  have hl:(wD w::p.map wD).length≤4294967296:=by simpa using h
  simp only [zaa,hl,hok,hf]
theorem zDF {p:List (Int×List Int)} {k:Nat} {w:Int×List Int} (h:p[k]? =some w):(p.map wD)[k]? =some (.agg (.int .i64 w.1::uL w.2)):=by simp [h,wD]
theorem zsQ (l:List D):D.width (.agg l)=l.length:=rfl
theorem zIP {T:Tb} {i:Nat} {s:DS} (h:T[i]? =some s.cells) (hs:s.Ok) (hn:s.pend.length≤1000000) (a:Int):
  zbP [.h kD i 0,.int .i64 a] [T]=some (Ans.mk (.tup [.sl .own (uL (s.read a).1),.int .i64 (s.read a).2]) [] []):=by
 rw [znl];unfold zgK DS.read;rw [zIO h hs a,zab,zaF,zaF,zaR]
 by_cases hm:s.may a=0
 ·rw [hm];have hb:((0:Int) != 0)=false:=rfl
  rw [hb,zas,if_neg (by simp)]
  have ha:0≤a∧a < 52:=by
   unfold DS.may at hm;split at hm
   ·omega
   ·split at hm<;>omega
  have hp:=zpp (s:=s) hs.len
  have hbase:=zzh (s:=s) hs.len (a:=a.toNat) (by omega)
  have hsec:=zAu hs (a:=a.toNat) (by omega)
  rw [zaa ha.1,zaa (by omega),zap h,zaa (by rw [zoi hs.len]; omega),Nat.zero_add,hbase]
  rw [zaa (zvQ _),zaa (by simp [hsec.len]),zaa (by simp [hsec.len]),zap h,zap hp,zbA,zap h,zap hp,zbA,zaa (by simp)]
  rw [zp1 hsec.len,List.length_map]
  refine zcp (R:=Ans) (α:=(Int×(List D×PUnit)×(Nat×Nat×Nat)×Int×Int×PUnit)×List (List D)×PUnit)
   (fun k=>((a,(uL (look (s.pend.take k) a (s.base a.toNat)),PUnit.unit),(i,0,s.pend.length),(s.pend.length:Int),(k:Int),PUnit.unit),T,PUnit.unit)) s.pend.length (by omega) ?_ ?_
  ·intro again k hk;dsimp only;obtain ⟨w,hw⟩:∃ w,s.pend[k]? =some w:=⟨_,List.getElem?_eq_getElem hk⟩;have hws:=hs.ps w (List.mem_of_getElem? hw)
   have hd:decide ((k:Int) < (s.pend.length:Int))=true:=by simp; omega
   have hlk:(look (s.pend.take k) a (s.base a.toNat)).length=32:=zAv (fun w hw=>(hs.ps w (List.mem_of_mem_take hw)).len) hsec.len
   rw [hd,zaI,zap h,zap hp,zbA,zaa (by omega),zaa (by simpa using hk),zap h,zap hp,zbA,zap (by simpa using zDF hw),zet,zeb _ hws.len]
   dsimp only;simp only [List.append_nil,List.cons_append,List.nil_append,zsQ,List.length_cons,zcC,hws.len,hlk,zaa]
   by_cases hwa:w.1=a
   ·have hb:(w.1 == a)=true:=by simp [hwa]
    rw [hb,zaI,List.drop_succ_cons,List.drop_zero]
    have et:(uL w.2).take 32=uL w.2:=List.take_of_length_le (by simp [hws.len])
    rw [et,zaa (by omega),zaa (by simp [hws.len]),zaa (by simp [hws.len]),zaa (by omega),zam,zav (by omega) (by omega),zF3 (by simp [hws.len])]
    have e3:(uL (look (s.pend.take k) a (s.base a.toNat))).take 0++uL w.2++(uL (look (s.pend.take k) a (s.base a.toNat))).drop (0+32)=uL w.2:=by
     rw [List.drop_of_length_le (by simp [hlk])]; simp
    rw [e3,zp1 hws.len,zxS hw,if_pos hwa];rfl
   ·have hb:(w.1 == a)=false:=by simp [hwa]
    rw [hb,zas,zam,zav (by omega) (by omega),zp1 hlk,zxS hw,if_neg hwa]
    rfl
  ·intro again
   have hlk:=zAv (p:=s.pend) (a:=a) (fun w hw=>(hs.ps w hw).len) hsec.len
   have hd:decide ((s.pend.length:Int) < (s.pend.length:Int))=false:=by simp
   dsimp only;rw [hd,zas,List.take_length];simp only [List.append_nil,zcC,hlk,Nat.le_refl,zaa]
   have ec:cut 0 32 (uL (look s.pend a (s.base a.toNat)))=uL (look s.pend a (s.base a.toNat)):=by
    have:=zb5 (uL (look s.pend a (s.base a.toNat)));rw [zcC,hlk] at this; exact this
   rw [ec,znG (by rw [hlk]; omega),zab,zbA]
   simp;rfl
 ·have hb:(s.may a != 0)=true:=by simp [hm]
  rw [hb,zaI,if_pos hm];rfl
theorem zHp {T:Tb} {i:Nat} {s:DS} (h:T[i]? =some s.cells) (hs:s.Ok) (a:Int) (tg:Tag) (b:List Int):
  za5 [.h kD i 0,.int .i64 a,.sl tg (uL b)] [T]=some (Ans.mk (.tup [wD (putR s a b).1,.int .i64 (putR s a b).2]) [] []):=by
 rw [zox,zcN];unfold zhB putR;rw [zIO h hs a,zab,zaF,zaF,zaR]
 by_cases hm:s.may a=0
 ·rw [hm];have hb:((0:Int) != 0)=false:=rfl
  rw [hb,zas,if_neg (by simp)]
  by_cases hl:b.length=32
  ·have hb2:(((uL b).length:Int) != 32)=false:=by simp [hl]
   rw [hb2,zas,if_neg (by simp [hl]),zaa (zAt _),zaa (by simp [hl])]
   have et:(D.int .i64 a::uL b).take 33=.int .i64 a::uL b:=List.take_of_length_le (by simp [hl])
   simp only [List.append_nil,List.cons_append,List.nil_append,List.length_cons,zcC,hl,List.drop_zero,et]
   rw [zaa (by omega),zeb _ hl]
   dsimp only;simp only [zcC,hl,Nat.le_refl,zaa,List.take_of_length_le,et];rw [zeb _ hl];dsimp only
   rw [zaa (by simp only [D.free,D.freeL,zq8,Bool.and_self])]
   rfl
  ·have hb2:(((uL b).length:Int) != 32)=true:=by simp; omega
   rw [hb2,zaI,if_pos hl];rfl
 ·have hb:(s.may a != 0)=true:=by simp [hm]
  rw [hb,zaI,if_pos hm];rfl
theorem zHq (l:List Int):(uL l).map D.lnt1=uL l:=by
 unfold uL; rw [List.map_map]; apply List.map_congr_left; intro n _; rfl
theorem zHr (w:Int×List Int) (hw:Sec w.2) (c:Int):zaN [wD w,.at_ (.int .i64 c)]=some (.bool (w.1 == c)):=by
 unfold wD;rw [zjN];unfold zeU
 rw [show List.map D.lnt1 (.int .i64 w.1::uL w.2)=.int .i64 w.1::uL w.2 by rw [List.map_cons,zHq]; rfl,zeb _ hw.len]
theorem zzD {p:List (Int×List Int)} (hp:∀ w∈p,Sec w.2) {c:Int} (hc:∀ w∈p,w.1≠c) (hn:p.length≤1000000) (tg:Tag):
  zat [.sl tg (p.map wD),.fn ID.disk_Disk_Damage_1 [] [.at_ (.int .i64 c)]]=some (.int .i64 (-1)):=by
 rw [zdk,zDD];unfold zbK;rw [List.length_map]
 refine zcp (R:=D) (α:=(List D×Int×Int×Int×PUnit)×PUnit) (fun k=>((p.map wD,c,(p.length:Int),(k:Int),PUnit.unit),PUnit.unit)) p.length (by omega) ?_ ?_
 ·intro again k hk;dsimp only;obtain ⟨w,hw⟩:∃ w,p[k]? =some w:=⟨_,List.getElem?_eq_getElem hk⟩;have hws:=hp w (List.mem_of_getElem? hw)
  have hd:decide ((k:Int) < (p.length:Int))=true:=by simp; omega
  rw [hd,zaI,zaa (by omega),zap (by simpa using zDF hw),zet,zeb _ hws.len]
  dsimp only;simp only [List.append_nil,List.cons_append,List.nil_append,zsQ,List.length_cons,zcC,hws.len,zaa];rw [zeb _ hws.len];dsimp only
  rw [zcC,hws.len,zaa (by omega)]
  have:=zHr w hws c;unfold wD at this;rw [this,zab,zbo]
  have hb:(w.1 == c)=false:=by simp [hc w (List.mem_of_getElem? hw)]
  rw [hb,zas,zam,zav (by omega) (by omega)]
  rfl
 ·intro again
  have hd:decide ((p.length:Int) < (p.length:Int))=false:=by simp
  dsimp only;rw [hd,zas]
theorem zyl {p:List (Int×List Int)} (hp:∀ w∈p,Sec w.2) {c:Int} (hc:∀ w∈p,w.1≠c) (hn:p.length≤1000000):
  zaq [.sl .own (p.map wD),.fn ID.disk_Disk_Damage_1 [] [.at_ (.int .i64 c)]] []=some (Ans.mk (.sl .own (p.map wD)) [] []):=by
 rw [zdf];unfold zbB
 rw [zaa (by omega),zb5,zzD hp hc hn,zab,zaR]
 have hb:((-1:Int) == -1)=true:=rfl
 have hf:(p.map wD).all D.free=true:=by rw [List.all_map,List.all_eq_true]; intro w _; exact zGh w
 rw [hb,zaI,zaa (by rfl),zaa hf]
theorem zo2 (p:List (Int×List Int)):zdh (p.map wD)=true:=by
 simp only [zdh,List.all_map,List.all_eq_true];intro w _;simp [wD,D.flatEl,D.flat,uL]
theorem zwy {p:List (Int×List Int)} (h:∀ w∈p,Sec w.2):zgu 33 (p.map wD)=true:=by
 simp only [zgu,List.all_map,List.all_eq_true];intro w hw;have:=(h w hw).len;simp [wD,D.width,this]
theorem zFl {T:Tb} {i:Nat} {s:DS} (h:T[i]? =some s.cells) (hs:s.Ok) (hn:s.pend.length≤1000000) {a:Int} (hc:∀ w∈s.pend,w.1≠a) (tg:Tag) (b:List Int):
  zbv [.h kD i 0,.int .i64 a,.sl tg (uL b)] [T]=some (Ans.mk (.int .i64 (s.damage a b).1) [] [T.set i (s.damage a b).2.cells]):=by
 rw [zlf,zcN];unfold zfM DS.damage;have hpl:=zAw s a b;rw [zHp h hs,zab,zaF,zaF,zeu,zcB,zcB,zcr];dsimp only;unfold wD;rw [zet,zeb _ hpl,zaR];dsimp only
 rw [zaa (by simp [hpl])]
 by_cases he:(putR s a b).2=0
 ·obtain ⟨h1,h2,h3,h4,h5⟩:=zvR he
  have hb:((putR s a b).2 != 0)=false:=by simp [he]
  rw [hb,zas,if_pos he,h3]
  try rw [he]
  dsimp only
  have et:(uL b).take 32=uL b:=List.take_of_length_le (by simp [h2])
  simp only [List.append_nil,List.cons_append,List.nil_append,List.length_cons,zcC,h2,List.drop_succ_cons,List.drop_zero,et,zvQ,Nat.zero_add];have hlen:=hs.len
  have hset:za7 T i (a.toNat*32) (uL b)=T.set i (s.setSec a.toNat b).cells:=by
   rw [zfd h,zcC,h2,zGd hlen (by omega)]
  have hlen2:=zuu (s:=s) hlen (a:=a.toNat) (by omega) h2
  have hU:=zlX h (s.setSec a.toNat b).cells;have hp:=zpp hlen2;have hpe:(s.setSec a.toNat b).pend=s.pend:=rfl
  rw [zaa (by first | trivial | omega),zaa (by first | trivial | omega),zaa h4,zaa (by first | trivial | omega),zap h,zaa (by rw [zoi hlen]; omega),zaa (by first | trivial | omega),zaa (by first | trivial | rfl)]
  rw [zzh hlen (by first | trivial | omega),zaa (zvQ _),zrY,hset,zap hU,zap hp,zbA,zap hU,zap hp,zbA,zaa (by first | trivial | omega),zb5,hpe]
  rw [zDE hs.ps (by first | trivial | omega),zab,zbA,zaa (by first | trivial | rfl),zaa (zo2 _),zyl hs.ps hc hn,zab,zaF,zaF,zbA,zaa (by first | trivial | omega),zap hU,zaa (by rw [zoi hlen2]; omega),
   zaa (by first | trivial | rfl),zaa (zo2 _),zaa (zwy hs.ps),zrY]
  have h6:za7 (T.set i (s.setSec a.toNat b).cells) i 1664 [.sl .own (s.pend.map wD)]=T.set i (s.setSec a.toNat b).cells:=by
   rw [zfd hU];have:=zpq (s:=s.setSec a.toNat b) hlen2 s.pend
   rw [show (1664:Nat)+[D.sl .own (s.pend.map wD)].length=1665 from rfl,this,List.set_set]
   rfl
  rw [h6,show s.mayW a b=0 from he]
 ·have hb:((putR s a b).2 != 0)=true:=by simp [he]
  rw [hb,zaI,if_neg he]
  have:T.set i s.cells=T:=by
   apply List.ext_getElem?;intro j;rw [List.getElem?_set];split
   ·rename_i e; subst e; rw [h]; simp [za3 h]
   ·rfl
  rw [this]
theorem zFm (T:Tb):zpx T=some (Ans.mk (.h kD T.length 0) [] [T++[List.replicate 1664 (D.int .u8 0)++[.sl .own [],.bool false]]]):=by kernel_rfl
theorem zJE (T:Tb):zdz [] [T]=some (Ans.mk (.h kD T.length 0) [] [T++[DS.new.cells]]):=by
 rw [zv0]
 have e:DS.new.cells=List.replicate 1664 (D.int .u8 0)++[.sl .own [],.bool false]:=by
  show uL (List.replicate 1664 0)++[.sl .own [],.bool false]=_;rw [←zut]
 rw [e];exact zFm T
theorem zzE {R:Type} {n:Nat} {b:List Int} (h:b.length=n) (f:LfT [.arr n]→Option R):zaz [.arr n] (uL b) f=f (uL b,()):=by
 subst h
 have e1:(uL b).take b.length=uL b:=List.take_of_length_le (by simp)
 have e2:(uL b).drop b.length=[]:=List.drop_of_length_le (by simp)
 simp [zaz,zd6,Lf.get,e1,e2]
theorem zuM {n:Nat} {b:List Int} (h:b.length=n):(uL b).take n=uL b:=List.take_of_length_le (by simp [h])
theorem zFn {a:Int} {b:List Int} (h:b.length=32):zec 33 [D.agg (D.int .i64 a::uL b)]=true:=by simp [zec,D.width,D.isAgg,D.cell,h]
theorem zDG {a:Int} {b:List Int} (h:b.length=32):zgu 33 [D.agg (D.int .i64 a::uL b)]=true:=by simp [zgu,D.width,h]
theorem zBD (a:Int) (b:List Int):zdh [D.agg (D.int .i64 a::uL b)]=true:=by
 have h:(uL b).all D.flat=true:=zHf b;show ((D.agg (D.int .i64 a::uL b)).flatEl && true)=true;show ((true && (uL b).all D.flat) && true)=true;rw [h]; rfl
section
variable {T:Tb} {i:Nat} {s:DS}
theorem zFo (h:T[i]? =some s.cells) (hl:s.l.length=1664) (p:List (Int×List Int)) (l:List D) (e:l=p.map wD):za7 (setT T i 1664 .undef) i 1664 [.sl .own l]=T.set i ({ s with pend:=p }:DS).cells:=by
 subst e
 rw [zvG h (by rw [zoi hl]; omega),zpq hl]
theorem zym (h:T[i]? =some s.cells) (hl:s.l.length=1664) (p:List (Int×List Int)):za7 T i 1664 [.sl .own (p.map wD)]=T.set i ({ s with pend:=p }:DS).cells:=by
 rw [zfd h];exact congrArg _ (zpq hl p)
theorem zwz (h:T[i]? =some s.cells) (hs:s.Ok) (hn:s.pend.length≤1000000) (a:Int) (tg:Tag) (b:List Int):
  zbs [.h kD i 0,.int .i64 a,.sl tg (uL b)] [T]=some (Ans.mk (.int .i64 (s.write a b).1) [] [T.set i (s.write a b).2.cells]):=by
 rw [zmz,zcN];unfold zgl DS.write;have hpl:=zAw s a b
 by_cases he:(putR s a b).2=0
 ·obtain ⟨h1,h2,h3,h4,h5⟩:=zvR he
  simp (disch:=first | omega | assumption | (simp; done) | fail) [zHp h hs,wD,zeb _ hpl,he,h3,zap h,zap (zpp hs.len),hpl,h2,zzE h2,zuM h2,zFn h2,zDG h2,zC0 h,zoi hs.len,zo2,zBD,zwy hs.ps]
  exact zFo h hs.len (s.pend++[(a,b)]) _ (by simp [wD])
 ·simp (disch:=first | omega | assumption | (simp; done) | fail) [zHp h hs,wD,zeb _ hpl,he,hpl,set_same h]
theorem zlG {β:Type} {l:List β} {n:Nat} (h:l.length=n):cut 0 n l=l:=by subst h; exact zb5 l
theorem zIQ (l:List Int):(uL l).map D.hide=uL l:=by
 unfold uL; rw [List.map_map]; apply List.map_congr_left; intro n _; rfl
theorem zIR (l:List Int):(uL l).map D.own0=uL l:=by
 unfold uL; rw [List.map_map]; apply List.map_congr_left; intro n _; rfl
theorem zzF (h:T[i]? =some s.cells) (hs:s.Ok) (hn:s.pend.length≤1000000):zbH [.h kD i 0] [T]=some (Ans.mk (.h kD T.length 0) [] [T++[s.cells]]):=by
 rw [zmx];unfold zgk
 have e1:List.map D.hide (List.take 1666 (List.drop 0 s.cells))=uL s.l++[D.undef,D.bool s.failed]:=by
  rw [List.drop_zero,List.take_of_length_le (by rw [zoi hs.len]; omega)]
  unfold DS.cells;rw [List.map_append,zIQ]; rfl
 have e2:∀ (x:List D),x.length=1666→spl 0 1666 x (uL s.l++[D.undef,D.bool s.failed])=uL s.l++[D.undef,D.bool s.failed]:=by
  intro x hx; unfold spl; rw [if_pos ⟨rfl,hx.symm⟩]
 have e3:((uL s.l++[D.undef,D.bool s.failed]).set 1664 .nilp).all D.own0ok=true:=by
  rw [List.set_append_right _ _ (by simp [hs.len]),List.all_append,zqr (fun _=>rfl)]
  simp [hs.len,D.own0ok,D.flat]
 have e4:((uL s.l++[D.undef,D.bool s.failed]).map D.own0).set 1664 (.sl .own (s.pend.map wD))=s.cells:=by
  rw [List.map_append,zIR,List.set_append_right _ _ (by simp [hs.len])]
  simp [hs.len,DS.cells,D.own0]
 have e5:(uL s.l++[D.undef,D.bool s.failed]).length=1666:=by simp [hs.len]
 have e6:(List.reverse ([D.bool false,D.sl Tag.nil []]++List.replicate 1664 (D.int IntKind.u8 (0:Int)))).length=1666:=by rw [List.length_reverse,List.length_append,List.length_replicate]; rfl
 have e7:((true && decide ((1:Nat)=(1:Nat)) && List.all [(1664:Nat)] fun k=>decide (k < 1666))=true):=by decide
 rw [zap h,e1,e2 _ e6];generalize (uL s.l++[D.undef,D.bool s.failed])=X at*
 simp (disch:=first | omega | assumption | (simp; done) | fail) [e3,e4,e5,e7,zlG,zap h,zap (zpp hs.len),zoi hs.len,zDE hs.ps,zo2,zwy hs.ps]
theorem zHs (h:T[i]? =some s.cells) (hs:s.Ok) (hn:s.pend.length≤1000000):zbI [.h kD i 0] [T]=some (Ans.mk (.int .i64 s.flush.1) [] [T.set i s.flush.2.cells]):=by
 rw [zmB];unfold zgm DS.flush;cases hf:s.failed
 ·have hlp:(s.pend.map wD).length=s.pend.length:=by simp
  simp (disch:=first | omega | assumption | (simp; done) | fail) only [zap h,zap (zoh hs.len),zap (zpp hs.len),hf,zbo,zas,zbA,zaa,Nat.zero_add,Nat.le_refl,hlp]
  let st:Nat→(Nat×(Nat×Nat×Nat)×Int×Int×PUnit)×List (List D)×PUnit:=fun k=>((i,(i,0,s.pend.length),(s.pend.length:Int),(k:Int),PUnit.unit),T.set i (s.puts (s.pend.take k)).cells,PUnit.unit)
  have hst:st 0=((i,(i,0,s.pend.length),(s.pend.length:Int),0,PUnit.unit),T,PUnit.unit):=by
   show ((i,(i,0,s.pend.length),(s.pend.length:Int),0,PUnit.unit),T.set i (s.puts []).cells,PUnit.unit)=_
   rw [show s.puts []=s from rfl,set_same h]
  rw [←hst]
  refine zcp st s.pend.length (by omega) ?_ ?_
  ·intro again k hk;dsimp only [st];obtain ⟨w,hw⟩:∃ w,s.pend[k]? =some w:=⟨_,List.getElem?_eq_getElem hk⟩;obtain ⟨hws,hw0,hw1⟩:=hs.pend w (List.mem_of_getElem? hw)
   obtain ⟨pk,pf,pp⟩:=zr6 hs (s.pend.take k) fun w hw=>hs.pend w (List.mem_of_mem_take hw)
   have hU:=zlX h (s.puts (s.pend.take k)).cells;have hpd:=zpp (s:=s.puts (s.pend.take k)) pk.len;rw [pp] at hpd
   have hnx:za7 (T.set i (s.puts (s.pend.take k)).cells) i (w.1.toNat*32) (uL w.2)=T.set i (s.puts (s.pend.take (k+1))).cells:=by
    rw [zfd hU,zcC,hws.len,zGd pk.len (by omega),List.set_set,List.take_add_one,hw]
    show _=T.set i (s.puts (s.pend.take k++[w])).cells;unfold DS.puts;rw [List.foldl_append]; rfl
   simp (disch:=first | omega | assumption | (simp; done) | fail) [zap hU,zap hpd,zap (zDF hw),zeb _ hws.len,hws.len,zuM hws.len,zoi pk.len,hk,zsQ,zzh pk.len,hw0,hw1,zav,hnx]
  ·intro again;dsimp only [st];rw [List.take_length];obtain ⟨pk,pf,pp⟩:=zr6 hs s.pend hs.pend;have hU:=zlX h (s.puts s.pend).cells;have hz:=zym hU pk.len []
   have hz':za7 (T.set i (s.puts s.pend).cells) i 1664 [D.sl Tag.own []]=T.set i s.flushed.cells:=by
    have:=zym hU pk.len [];rw [List.set_set] at this; exact this
   simp (disch:=first | omega | assumption | (simp; done) | fail) [zap hU,zoi pk.len,hz']
 ·simp (disch:=first | omega | assumption | (simp; done) | fail) [zap h,zap (zoh hs.len),hf,set_same h]
end
end Wf

namespace Wf
open Go Go.RowKit Go.Proofs
set_option linter.unusedSimpArgs false
set_option linter.unusedVariables false
section
variable {T0 T1:Tb} {b:Nat} {idx:List Nat} {B:Ben}
theorem At.ds (h:At T0 T1 b idx B) (hw:B.w≤1000000) (d:Int):(B.dk d).Ok∧(B.dk d).pend.length≤1000000:=by
 have:=zps h.ok d
 exact ⟨this.1,by have:=this.2; omega⟩
theorem zzG (h:At T0 T1 b idx B):zal [.h kB b 0] [P0 T0 b idx B]=some (Ans.mk (.int .i64 B.n) [] []):=by
 rw [zmr];unfold zgh;simp [zap h.get0,bRow,h.len,Ben.n]
theorem b_is (h:At T0 T1 b idx B) (d:Int):zaH [.h kB b 0,.int .i64 d] [P0 T0 b idx B]=some (Ans.mk (.bool (B.is d)) [] []):=by
 rw [znf];unfold zgI Ben.is Ben.n
 by_cases h0:0≤d
 ·simp [zap h.get0,bRow,h0,h.len]
 ·simp [h0]
theorem zAF (h:At T0 T1 b idx B) (d:Int):zaL [.h kB b 0,.int .i64 d] [P0 T0 b idx B,P1 T1 idx B]=some (Ans.mk (.bool (B.failed d)) [] []):=by
 rw [zjU];unfold zeX Ben.failed;cases hd:B.is d
 ·simp [b_is h d,hd]
 ·obtain ⟨h0,h1⟩:=zfE.1 hd
  have h1':d.toNat < idx.length:=by have:=h.len; unfold Ben.n at h1; omega
  simp (disch:=first | omega | assumption | (simp; done) | fail) [b_is h d,hd,zap h.get0,bRow,h0,h1',zap (h.hd hd),D.isAgg,D.width,D.cell,zFk (h.get1 hd) (zps h.ok d).1]
theorem zyn (h:At T0 T1 b idx B) (d:Int):zaD [.h kB b 0,.int .i64 d] [P0 T0 b idx B]=some (Ans.mk (.int .i64 (B.may d)) [] []):=by
 rw [zmt];unfold zgi Ben.may;cases hd:B.is d
 ·simp [b_is h d,hd]
 ·cases hw:B.down<;>simp [b_is h d,hd,zap h.get0,bRow,hw]
theorem zDH (h:At T0 T1 b idx B) (hw:B.w≤1000000) (d a:Int):zbj [.h kB b 0,.int .i64 d,.int .i64 a] [P0 T0 b idx B,P1 T1 idx B]=some (Ans.mk (.tup [.sl .own (uL (B.read d a).1),.int .i64 (B.read d a).2]) [] []):=by
 rw [zlq];unfold zfP Ben.read
 by_cases hm:B.may d=0
 ·obtain ⟨hd,hdn⟩:=may0.1 hm;obtain ⟨h0,h1⟩:=zfE.1 hd
  have h1':d.toNat < idx.length:=by have:=h.len; unfold Ben.n at h1; omega
  have hu:=zhr ((B.dk d).read a).1;simp only [List.all_eq_true] at hu
  simp (disch:=first | omega | assumption | (simp; done) | fail) [zyn h d,hm,zap h.get0,bRow,h0,h1',zap (h.hd hd),D.isAgg,D.width,D.cell,zIP (h.get1 hd) (h.ds hw d).1 (h.ds hw d).2]
 ·simp [zyn h d,hm]; rfl
theorem zJF (h:At T0 T1 b idx B) (tg:Tag) (live:List Bool) {d:Int} (h0:0≤d):zc3 [.h kB b 0,.sl tg (live.map D.bool),.int .i64 d] [P0 T0 b idx B,P1 T1 idx B]=some (Ans.mk (.bool (B.up live d)) [] []):=by
 have hl:D.lentL (live.map D.bool)=live.map D.bool:=by
  induction live with
  | nil=>rfl
  | cons x l ih=>simp [ih]
 rw [ztk,hl];unfold znj Ben.up
 by_cases h1:d < B.n
 ·by_cases h2:d < live.length
  ·have e:live[d.toNat]? =some (live[d.toNat]'(by omega)):=List.getElem?_eq_getElem (by omega)
   have e':(live.map D.bool)[d.toNat]? =some (.bool (live[d.toNat]'(by omega))):=by simp [e]
   cases hv:live[d.toNat]'(by omega)
   ·rw [hv] at e e';simp [zzG h,h1,h2,h0,zap e',e,hv]
   ·rw [hv] at e e';simp [zzG h,h1,h2,h0,zap e',e,zAF h d,hv]
  ·have e:live[d.toNat]? =none:=List.getElem?_eq_none (by omega)
   simp [zzG h,h1,h2,e]
 ·simp [zzG h,h1]
theorem zDI (h:At T0 T1 b idx B) (hw:B.w≤1000000):zbb [.h kB b 0] [P0 T0 b idx B]=some (Ans.mk (.bool (decide (B.left≠0))) [] [P0 T0 b idx (if B.left=0 then B.off else B.less)]):=by
 rw [zjk];unfold zez;have hw0:=h.ok.w0;have hlf:=h.ok.lf;have hg:=h.get0
 have hset:∀ (B':Ben) (T:Tb) (cs:List D) (o:Nat) (x:D),T=P0 T0 b idx B'→cs=bRow B' idx→∀ B'':Ben,cs.take o++[x]++cs.drop (o+1)=bRow B'' idx→za7 T b o [x]=P0 T0 b idx B'':=by
  rintro B' _ _ o x rfl rfl B'' e
  have hg':(P0 T0 b idx B')[b]? =some (bRow B' idx):=by unfold P0; rw [List.getElem?_set,if_pos rfl,if_pos h.b]
  rw [zfd hg'];show (P0 T0 b idx B').set b ((bRow B' idx).take o++[x]++(bRow B' idx).drop (o+1))=_;rw [e,zII]
 by_cases hl:B.left=0
 ·have e1:=hset B _ _ 2 (.bool true) rfl rfl B.off rfl
  simp (disch:=first | omega | assumption | (simp; done) | fail) [zap hg,bRow,hl,e1,zim,D.flat]
 ·by_cases hp:0 < B.left
  ·let B1:Ben:={ B with left:=B.left - 1 };have e1:=hset B _ _ 1 (.int .i64 (B.left - 1)) rfl rfl B1 rfl
   have hg1:(P0 T0 b idx B1)[b]? =some (bRow B1 idx):=by unfold P0; rw [List.getElem?_set,if_pos rfl,if_pos h.b]
   have e2:=hset B1 _ _ 0 (.int .i64 (B.w+1)) rfl rfl B.less (by unfold Ben.less; rw [if_pos hp]; rfl)
   have e3:bRow B1 idx=[.int .i64 B.w,.int .i64 (B.left - 1),.bool B.down,.sl .own (idx.map hD)]:=rfl;rw [e3] at hg1
   simp (disch:=first | omega | assumption | (simp; done) | fail) [zap hg,zap hg1,bRow,hl,hp,e1,e2,zim,D.flat,zav]
  ·have e1:=hset B _ _ 0 (.int .i64 (B.w+1)) rfl rfl B.less (by unfold Ben.less; rw [if_neg hp]; rfl)
   simp (disch:=first | omega | assumption | (simp; done) | fail) [zap hg,bRow,hl,hp,e1,zim,D.flat,zav]
theorem zDJ (h:At T0 T1 b idx B) (hw:B.w≤1000000) (d a:Int) (tg:Tag) (x:List Int):
  zaP [.h kB b 0,.int .i64 d,.int .i64 a,.sl tg (uL x)] [P0 T0 b idx B,P1 T1 idx B]=some (Ans.mk (.int .i64 (B.write d a x).1) [] [P0 T0 b idx (B.write d a x).2,P1 T1 idx (B.write d a x).2]):=by
 rw [zkx,zcN];unfold zfn Ben.write
 by_cases hm:B.may d=0
 ·obtain ⟨hd,hdn⟩:=may0.1 hm;obtain ⟨h0,h1⟩:=zfE.1 hd;obtain ⟨ho,hp⟩:=h.ds hw d
  have h1':d.toNat < idx.length:=by have:=h.len; unfold Ben.n at h1; omega
  have hT:(P1 T1 idx B++[(B.dk d).cells])[(P1 T1 idx B).length]? =some (B.dk d).cells:=by simp
  have hj:(P1 T1 idx B++[(B.dk d).cells]).set (P1 T1 idx B).length ((B.dk d).write a x).2.cells=P1 T1 idx (B.junk ((B.dk d).write a x).2):=by
   rw [List.set_append_right _ _ (Nat.le_refl _),Nat.sub_self,←zHg]; rfl
  have hJ:At T0 T1 b idx (B.junk ((B.dk d).write a x).2):=h.nx (K:=0) ⟨zr8 h.ok _,rfl,by simp,by simp⟩
  have hd':(B.junk ((B.dk d).write a x).2).is d=true:=hd;have hg1:=hJ.get1 hd';have hset:=hJ.set1 hd' ((B.dk d).write a x).2;have hw1:=zwz (T:=P1 T1 idx (B.junk ((B.dk d).write a x).2)) (i:=ix idx d) (s:=B.dk d) hg1 ho hp a .lent x
  have hgr:∀ B':Ben,(P0 T0 b idx B')[b]? =some [.int .i64 B'.w,.int .i64 B'.left,.bool B'.down,.sl .own (idx.map hD)]:=by
   intro B'; unfold P0; rw [List.getElem?_set,if_pos rfl,if_pos h.b]; rfl
  by_cases he:(B.dk d).mayW a x=0
  ·have e1:((B.dk d).write a x).1=0:=he
   have e2:((B.dk d).write a x).2=(B.dk d).add a x:=by unfold DS.write; rw [if_pos he]
   by_cases hl:B.left=0
   ·simp (disch:=first | omega | assumption | (simp; done) | fail) [zyn h d,hm,zap (hgr _),h0,h1',zap (h.hd hd),D.isAgg,D.width,D.cell,zzF (h.get1 hd) ho hp,zkO,zwz hT ho hp,hj,he,e1,zDI h hw,hl]
    exact ⟨rfl,rfl⟩
   ·simp (disch:=first | omega | assumption | (simp; done) | fail) [zyn h d,hm,zap (hgr _),h0,h1',zap (h.hd hd),D.isAgg,D.width,D.cell,zzF (h.get1 hd) ho hp,zkO,zwz hT ho hp,hj,he,e1,zDI h hw,hl,hw1,hset]
    rw [e2]; exact ⟨rfl,rfl⟩
  ·have e1:¬ ((B.dk d).write a x).1=0:=he
   simp (disch:=first | omega | assumption | (simp; done) | fail) [zyn h d,hm,zap (hgr _),h0,h1',zap (h.hd hd),D.isAgg,D.width,D.cell,zzF (h.get1 hd) ho hp,zkO,zwz hT ho hp,hj,he,e1]
   exact ⟨rfl,rfl⟩
 ·simp [zyn h d,hm]
theorem zHt (h:At T0 T1 b idx B) (hw:B.w≤1000000) (d:Int):
  zbl [.h kB b 0,.int .i64 d] [P0 T0 b idx B,P1 T1 idx B]=some (Ans.mk (.int .i64 (B.flush d).1) [] [P1 T1 idx (B.flush d).2]):=by
 rw [zkz];unfold zfo Ben.flush
 by_cases hm:B.may d=0
 ·obtain ⟨hd,hdn⟩:=may0.1 hm;obtain ⟨h0,h1⟩:=zfE.1 hd;obtain ⟨ho,hp⟩:=h.ds hw d
  have h1':d.toNat < idx.length:=by have:=h.len; unfold Ben.n at h1; omega
  simp (disch:=first | omega | assumption | (simp; done) | fail) [zyn h d,hm,zap h.get0,bRow,h0,h1',zap (h.hd hd),D.isAgg,D.width,D.cell,zHs (h.get1 hd) ho hp,h.set1 hd]
 ·simp [zyn h d,hm]
theorem zFp (h:At T0 T1 b idx B) (hw:B.w≤1000000) (d:Int) {a:Int} (hc:∀ w∈(B.dk d).pend,w.1≠a) (tg:Tag) (x:List Int):
  zbf [.h kB b 0,.int .i64 d,.int .i64 a,.sl tg (uL x)] [P0 T0 b idx B,P1 T1 idx B]=some (Ans.mk (.int .i64 (B.damage d a x).1) [] [P1 T1 idx (B.damage d a x).2]):=by
 rw [zjP,zcN];unfold zeV Ben.damage;cases hd:B.is d
 ·simp [b_is h d,hd]
 ·obtain ⟨h0,h1⟩:=zfE.1 hd;obtain ⟨ho,hp⟩:=h.ds hw d
  have h1':d.toNat < idx.length:=by have:=h.len; unfold Ben.n at h1; omega
  simp (disch:=first | omega | assumption | (simp; done) | fail) [b_is h d,hd,zap h.get0,bRow,h0,h1',zap (h.hd hd),D.isAgg,D.width,D.cell,zFl (h.get1 hd) ho hp hc,h.set1 hd]
theorem zFq (h:At T0 T1 b idx B):zaY [.h kB b 0] [P0 T0 b idx B]=some (Ans.mk (.int .i64 B.w) [] []):=by
 rw [ziD];unfold zeg;simp [zap h.get0,bRow]
end
end Wf

namespace Wf
open Go Go.RowKit Go.Proofs
set_option linter.unusedSimpArgs false
set_option linter.unusedVariables false
theorem gf_double (a:Int):za8 [.int .u8 a]=some (.int .u8 (dbl a)):=by
 rw [ztn];unfold znp dbl
 by_cases h:128≤a
 ·simp [h]
 ·simp [h]
theorem zIS (a b:Int) (h0:0≤b) (h1:b < 256):ze9 [.int .u8 a,.int .u8 b]=some (.int .u8 (mul8 a b)):=by
 rw [zzp];unfold zv6
 refine zgb (fun x=>x.1.2.1.toNat) (fun _=>some (D.int .u8 (mul8 a b)))
  (fun x=>∃ (n:Nat) (a' b' o:Int),0≤b'∧b' < 2 ^ n∧n≤8∧mulA n a' b' o=mul8 a b∧x=((a',b',o,PUnit.unit),PUnit.unit)) ?_ ⟨8,a,b,0,h0,h1,Nat.le_refl _,rfl,rfl⟩ (by simp; omega)
 rintro again _ ⟨n,a',b',o,p0,p1,p2,p3,rfl⟩ hag
 dsimp only
 by_cases hb:b' > 0
 ·have hd:decide (b' > 0)=true:=by simp [hb]
  rw [hd,zaI,zam]
  cases n with
  | zero=>simp at p1; omega
  | succ n=>
   have hdiv:b'.fdiv 2=b' / 2:=Int.fdiv_eq_ediv_of_nonneg _ (by omega)
   have hlt:b' / 2 < 2 ^ n:=by
    have:(2:Int) ^ (n+1)=2 ^ n*2:=Int.pow_succ ..;omega
   by_cases hone:bits .and .u8 b' 1=1
   ·have hbo:(bits .and .u8 b' 1 == 1)=true:=by simp [hone]
    rw [hbo,zaI,zam,gf_double,zab,zaR,zam,hdiv]
    refine hag _ ⟨n,_,_,_,by omega,hlt,by omega,?_,rfl⟩ (by simp; omega)
    rw [←p3]
    show _=mulA n (dbl a') (b' / 2) (if bits .and .u8 b' 1=1 then xor8 o a' else o)
    rw [if_pos hone]
   ·have hbo:(bits .and .u8 b' 1 == 1)=false:=by simp [hone]
    rw [hbo,zas,gf_double,zab,zaR,zam,hdiv]
    refine hag _ ⟨n,_,_,_,by omega,hlt,by omega,?_,rfl⟩ (by simp; omega)
    rw [←p3]
    show _=mulA n (dbl a') (b' / 2) (if bits .and .u8 b' 1=1 then xor8 o a' else o)
    rw [if_neg hone]
 ·have hd:decide (b' > 0)=false:=by simp [hb]
  have:b'=0:=by omega
  subst this;rw [hd,zas,←p3,zC2]
theorem zFr {a b:List Int} {k:Nat} {x y:Int} (h1:a[k]? =some x) (h2:b[k]? =some y):(List.zipWith xor8 a b).take (k+1)=(List.zipWith xor8 a b).take k++[xor8 x y]:=by
 rw [List.take_add_one];congr 1;simp [List.getElem?_zipWith,h1,h2]
theorem zii (t t':Tag) (a b:List Int) (ha:a.length < 100000):zaS [.sl t (uL a),.sl t' (uL b)]=some (.sl .own (uL (addL a b))):=by
 rw [zv7,zcN,zcN];unfold zpK addL
 by_cases hl:a.length=b.length
 ·have hb:(((uL a).length:Int) != ((uL b).length:Int))=false:=by simp [hl]
  rw [hb,zas,if_pos hl]
  let st:Nat→(List D×List D×List D×Int×Int×PUnit)×PUnit:=fun k=>((uL b,uL ((List.zipWith xor8 a b).take k),uL a,(a.length:Int),(k:Int),PUnit.unit),PUnit.unit)
  have hst:st 0=((uL b,[],uL a,((uL a).length:Int),0,PUnit.unit),PUnit.unit):=by simp [st,uL]
  rw [←hst];refine zcj st a.length ha ?_ ?_
  ·intro again k hk;dsimp only [st];have h1:a[k]? =some a[k]:=List.getElem?_eq_getElem hk
   have h2:b[k]? =some (b[k]'(by omega)):=List.getElem?_eq_getElem (by omega)
   have hd:decide ((k:Int) < (a.length:Int))=true:=by simp; omega
   rw [hd,zaI,zaa (by omega),zap (by simpa using zj9 h1),zaR,zaa (by omega),zap (by simpa using zj9 h2),zaR,zam,zaa (by simp; omega),zaa (by rfl),zam,zav (by omega) (by omega),zaa (by simp)]
   rw [zFr h1 h2,←zDb];rfl
  ·intro again;dsimp only [st]
   have hd:decide ((a.length:Int) < (a.length:Int))=false:=by simp
   have ht:(List.zipWith xor8 a b).take a.length=List.zipWith xor8 a b:=List.take_of_length_le (by simp; omega)
   rw [hd,zas,zaa (by rfl),zaa (zhr _),ht]
 ·have hb:(((uL a).length:Int) != ((uL b).length:Int))=true:=by simp; omega
  rw [hb,zaI,if_neg hl];rfl
theorem zjm (t:Tag) (a:List Int) (ha:a.length < 100000) {f:Int} (h0:0≤f) (h1:f < 256):zaQ [.sl t (uL a),.int .u8 f]=some (.sl .own (uL (a.map (mul8 · f)))):=by
 rw [zst,zcN];unfold zlt
 let st:Nat→(Int×List D×List D×Int×Int×PUnit)×PUnit:=fun k=>((f,uL ((a.map (mul8 · f)).take k),uL a,(a.length:Int),(k:Int),PUnit.unit),PUnit.unit)
 have hst:st 0=((f,[],uL a,((uL a).length:Int),0,PUnit.unit),PUnit.unit):=by simp [st,uL]
 rw [←hst];refine zcj st a.length ha ?_ ?_
 ·intro again k hk;dsimp only [st];have h2:a[k]? =some a[k]:=List.getElem?_eq_getElem hk
  have hd:decide ((k:Int) < (a.length:Int))=true:=by simp; omega
  rw [hd,zaI,zaa (by omega),zap (by simpa using zj9 h2),zaR,zIS _ _ h0 h1,zab,zaR,zaa (by simp; omega),zaa (by rfl),zam,zav (by omega) (by omega),zaa (by simp)]
  have:(a.map (mul8 · f)).take (k+1)=(a.map (mul8 · f)).take k++[mul8 a[k] f]:=by rw [List.take_add_one]; simp [h2]
  rw [this,←zDb];rfl
 ·intro again;dsimp only [st]
  have hd:decide ((a.length:Int) < (a.length:Int))=false:=by simp
  have ht:(a.map (mul8 · f)).take a.length=a.map (mul8 · f):=List.take_of_length_le (by simp)
  rw [hd,zas,zaa (by rfl),zaa (zhr _),ht]
abbrev Part:=Tag×List Int
def pL (ps:List Part):List D:=ps.map fun x=>.sl x.1 (uL x.2)
def zbT (t:Tag) (l:List Int):Tag:=match t,l with
 | .nil,_=>.nil
 | .nn,[]=>.nn
 | .nul,[]=>.nul
 | _,_=>.lent
theorem zHu (t:Tag) (l:List Int):D.lent (.sl t (uL l))=.sl (zbT t l) (uL l):=by
 have h:=zcN l
 cases l with
 | nil=>cases t<;>rfl
 | cons n l=>
  have e:uL (n::l)=.int .u8 n::uL l:=rfl;rw [e] at h ⊢;cases t<;>simp only [D.lent,h,zbT]<;>simp [D.lentL,D.lent,zcN]
theorem zdb (ps:List Part):D.lentL (pL ps)=pL (ps.map fun x=>(zbT x.1 x.2,x.2)):=by
 unfold pL;rw [ziP,List.map_map,List.map_map];apply List.map_congr_left;intro x _;exact zHu x.1 x.2
@[simp] theorem zeA (ps:List Part):(pL ps).length=ps.length:=by simp [pL]
theorem zc7 {ps:List Part} {k:Nat} {x:Part} (h:ps[k]? =some x):(pL ps)[k]? =some (.sl x.1 (uL x.2)):=by simp [pL,h]
theorem zDK (ps:List Part) (t:Tag) (l:List Int):pL ps++[.sl t (uL l)]=pL (ps++[(t,l)]):=by simp [pL]
theorem zo3 (ps:List Part) (i:Nat) (t:Tag) (l:List Int):(pL ps).set i (.sl t (uL l))=pL (ps.set i (t,l)):=by simp [pL,List.map_set]
def Part.free (x:Part):Bool:=x.1=.fresh || x.1=.full || x.1=.nil
theorem zlH {ps:List Part} (h:∀ x∈ps,x.free=true):(pL ps).all D.free=true:=by
 unfold pL;rw [List.all_map,List.all_eq_true];intro x hx;have:=h x hx;obtain ⟨t,l⟩:=x
 cases t<;>first | (exact zq8 l) | (exact absurd this (by simp [Part.free]))
theorem zyo (k:Nat) (hk:k < 255):zaZ [.int .i64 k]=some (.int .u8 (pow8 k)):=by
 rw [zsu];unfold zra
 have e1:Int.tmod (k:Int) 255=k:=by rw [Int.tmod_eq_emod_of_nonneg (by omega),Int.emod_eq_of_lt (by omega) (by omega)]
 have e2:Int.tmod ((k:Int)+255) 255=k:=by
  rw [Int.tmod_eq_emod_of_nonneg (by omega),Int.add_emod_right,Int.emod_eq_of_lt (by omega) (by omega)]
 rw [zam,e1,zam,zav (by omega) (by omega),zam,e2]
 refine zcj (fun j=>((pow8 j,(k:Int),(j:Int),PUnit.unit),PUnit.unit)) k (by omega) ?_ ?_
 ·intro again j hj;dsimp only
  have hd:decide ((j:Int) < (k:Int))=true:=by simp; omega
  rw [hd,zaI,gf_double,zab,zaR,zam,zav (by omega) (by omega)]
  rfl
 ·intro again
  have hd:decide ((k:Int) < (k:Int))=false:=by simp
  dsimp only;rw [hd,zas]
theorem zDL (tg:Tag) {ps:List Part} {n:Nat} (hn:n < 100000) (h0:0 < ps.length) (h1:ps.length < 255) (h:∀ x∈ps,x.2.length=n):
  zb3 [.sl tg (pL ps)]=some (.sl .own (uL (sumP n (ps.map (·.2))))):=by
 rw [zzq,zdb];unfold zwb
 have hsum:∀ {qs:List Part},0 < qs.length→qs.length < 255→(∀ x∈qs,x.2.length=n)→∀ tg,zbU [.sl tg (pL qs),.fn ID.synd_P_1 [] []]=some (.sl .own (uL (sumP n (qs.map (·.2))))):=by
  intro qs h0 h1 h tg;rw [zqN,zdb]
  have hl':∀ x∈(qs.map fun x=>(zbT x.1 x.2,x.2)),x.2.length=n:=by
   intro x hx; obtain ⟨y,hy,rfl⟩:=List.mem_map.1 hx; exact h y hy
  have hm:(qs.map fun x=>(zbT x.1 x.2,x.2)).map (·.2)=qs.map (·.2):=by rw [List.map_map]; rfl
  rw [←hm]
  have hlen:(qs.map fun x=>(zbT x.1 x.2,x.2)).length=qs.length:=by simp
  rw [←hlen] at h0 h1
  generalize (qs.map fun x=>(zbT x.1 x.2,x.2))=rs at*
  clear hm hlen h qs;unfold zjV
  have hb:(((pL rs).length:Int) == 0)=false:=by simp; intro e; rw [e] at h0; simp at h0
  obtain ⟨x0,hx0⟩:∃ x,rs[0]? =some x:=⟨_,List.getElem?_eq_getElem h0⟩;have hx0l:=hl' x0 (List.mem_of_getElem? hx0)
  rw [hb,zas,zap (zc7 hx0),zdi,zaa (by rfl),zcC,hx0l,zaa (by omega),zaa (by omega),zaa (by simp),Int.toNat_natCast,zut]
  have hls:∀ l∈rs.map (·.2),l.length=n:=by intro l hl; obtain ⟨y,hy,rfl⟩:=List.mem_map.1 hl; exact hl' y hy
  let st:Nat→(List D×List D×Int×Int×PUnit)×PUnit:=fun k=>((uL (sumK (fun _=>1) n (rs.map (·.2)) k),pL rs,((pL rs).length:Int),(k:Int),PUnit.unit),PUnit.unit)
  have hst:st 0=((uL (List.replicate n 0),pL rs,((pL rs).length:Int),0,PUnit.unit),PUnit.unit):=rfl;rw [←hst]
  refine zcj st rs.length (by omega) ?_ ?_
  ·intro again k hk;dsimp only [st];obtain ⟨x,hx⟩:∃ x,rs[k]? =some x:=⟨_,List.getElem?_eq_getElem hk⟩;have hxl:=hl' x (List.mem_of_getElem? hx)
   have hd:decide ((k:Int) < ((pL rs).length:Int))=true:=by simp; omega
   have hsl:=zlZ (f:=fun _=>1) hls (k:=k) (by simp; omega)
   rw [hd,zaI,zaa (by omega),zap (by simpa using zc7 hx),zdi,zaa (by omega)]
   have hb2:(((uL x.2).length:Int) != ((uL (sumK (fun _=>1) n (rs.map (·.2)) k)).length:Int))=false:=by simp [hxl,hsl]
   have hone:zbG [.int .i64 (k:Int)]=some (.int .u8 1):=by rw [zv8]; rfl
   rw [hb2,zas,hone,zab,zaR,zjm _ _ (by omega) (by omega) (by omega),zab,zbA,zaa (by omega),zaa (by omega),zb5,zb5,zii _ _ _ _ (by omega),zab,zbA,zam,
    zav (by omega) (by omega),zaa (by rfl)]
   have he:addL (sumK (fun _=>1) n (rs.map (·.2)) k) (x.2.map (mul8 · 1))=sumK (fun _=>1) n (rs.map (·.2)) (k+1):=by
    unfold addL
    rw [if_pos (by simp [hsl,hxl])]
    have:(rs.map (·.2)).getD k []=x.2:=by simp [List.getD_eq_getElem?_getD,hx]
    simp only [sumK,this]
   rw [he];rfl
  ·intro again;dsimp only [st]
   have hd:decide ((rs.length:Int) < ((pL rs).length:Int))=false:=by simp
   rw [hd,zas,zaa (by rfl),zaa (zhr _)]
   simp [sumP]
 rw [hsum (by simpa using h0) (by simpa using h1) (by intro x hx; obtain ⟨y,hy,rfl⟩:=List.mem_map.1 hx; exact h y hy),zab,zbA,zaa (by rfl),zaa (zhr _),List.map_map]
 rfl
theorem zDM (tg:Tag) {ps:List Part} {n:Nat} (hn:n < 100000) (h0:0 < ps.length) (h1:ps.length < 255) (h:∀ x∈ps,x.2.length=n):
  zb4 [.sl tg (pL ps)]=some (.sl .own (uL (sumQ n (ps.map (·.2))))):=by
 rw [zzr,zdb];unfold zwc
 have hsum:∀ {qs:List Part},0 < qs.length→qs.length < 255→(∀ x∈qs,x.2.length=n)→∀ tg,zbU [.sl tg (pL qs),.fn ID.gf_Pow [] []]=some (.sl .own (uL (sumQ n (qs.map (·.2))))):=by
  intro qs h0 h1 h tg;rw [zqO,zdb]
  have hl':∀ x∈(qs.map fun x=>(zbT x.1 x.2,x.2)),x.2.length=n:=by
   intro x hx; obtain ⟨y,hy,rfl⟩:=List.mem_map.1 hx; exact h y hy
  have hm:(qs.map fun x=>(zbT x.1 x.2,x.2)).map (·.2)=qs.map (·.2):=by rw [List.map_map]; rfl
  rw [←hm]
  have hlen:(qs.map fun x=>(zbT x.1 x.2,x.2)).length=qs.length:=by simp
  rw [←hlen] at h0 h1
  generalize (qs.map fun x=>(zbT x.1 x.2,x.2))=rs at*
  clear hm hlen h qs;unfold zjW
  have hb:(((pL rs).length:Int) == 0)=false:=by simp; intro e; rw [e] at h0; simp at h0
  obtain ⟨x0,hx0⟩:∃ x,rs[0]? =some x:=⟨_,List.getElem?_eq_getElem h0⟩;have hx0l:=hl' x0 (List.mem_of_getElem? hx0)
  rw [hb,zas,zap (zc7 hx0),zdi,zaa (by rfl),zcC,hx0l,zaa (by omega),zaa (by omega),zaa (by simp),Int.toNat_natCast,zut]
  have hls:∀ l∈rs.map (·.2),l.length=n:=by intro l hl; obtain ⟨y,hy,rfl⟩:=List.mem_map.1 hl; exact hl' y hy
  let st:Nat→(List D×List D×Int×Int×PUnit)×PUnit:=fun k=>((uL (sumK pow8 n (rs.map (·.2)) k),pL rs,((pL rs).length:Int),(k:Int),PUnit.unit),PUnit.unit)
  have hst:st 0=((uL (List.replicate n 0),pL rs,((pL rs).length:Int),0,PUnit.unit),PUnit.unit):=rfl;rw [←hst]
  refine zcj st rs.length (by omega) ?_ ?_
  ·intro again k hk;dsimp only [st];obtain ⟨x,hx⟩:∃ x,rs[k]? =some x:=⟨_,List.getElem?_eq_getElem hk⟩;have hxl:=hl' x (List.mem_of_getElem? hx)
   have hd:decide ((k:Int) < ((pL rs).length:Int))=true:=by simp; omega
   have hsl:=zlZ (f:=pow8) hls (k:=k) (by simp; omega)
   rw [hd,zaI,zaa (by omega),zap (by simpa using zc7 hx),zdi,zaa (by omega)]
   have hb2:(((uL x.2).length:Int) != ((uL (sumK pow8 n (rs.map (·.2)) k)).length:Int))=false:=by simp [hxl,hsl]
   have hone:=zyo k (by omega)
   rw [hb2,zas,hone,zab,zaR,zjm _ _ (by omega) (ziW k).1 (ziW k).2,zab,zbA,zaa (by omega),zaa (by omega),zb5,zb5,zii _ _ _ _ (by omega),zab,zbA,zam,
    zav (by omega) (by omega),zaa (by rfl)]
   have he:addL (sumK pow8 n (rs.map (·.2)) k) (x.2.map (mul8 · (pow8 k)))=sumK pow8 n (rs.map (·.2)) (k+1):=by
    unfold addL
    rw [if_pos (by simp [hsl,hxl])]
    have:(rs.map (·.2)).getD k []=x.2:=by simp [List.getD_eq_getElem?_getD,hx]
    simp only [sumK,this]
   rw [he];rfl
  ·intro again;dsimp only [st]
   have hd:decide ((rs.length:Int) < ((pL rs).length:Int))=false:=by simp
   rw [hd,zas,zaa (by rfl),zaa (zhr _)]
   simp [sumQ]
 rw [hsum (by simpa using h0) (by simpa using h1) (by intro x hx; obtain ⟨y,hy,rfl⟩:=List.mem_map.1 hx; exact h y hy),zab,zbA,zaa (by rfl),zaa (zhr _),List.map_map]
 rfl
end Wf

