/- A part of the proof: lemmas that the law's row leans on. -/
import Derived.Test.YtlbdpbbpoghncaaGreatPd
set_option linter.all false
namespace Wf
open Go Go.RowKit Go.Proofs
open PUnit (unit)
abbrev Zp:=List D→Option D
abbrev Zs:=List D→List Tb→Option Ans
def dd:Nat→List SS→List SS
 | 0,l=>l
 | n+1,l=>.dead::dd n l
set_option linter.unusedVariables false
set_option maxRecDepth 100000
def zgH:Ann:={ loops:=[] }
noncomputable def zad:Zp:=denP Tryz.prog (zav []) zgH [0] ID.wattlekeep_Within
theorem zkf:za3 Tryz.prog ID.wattlekeep_Within (.pure [0] zad):=zan (zax []) zbs ⟨Tryz.f12,by kernel_rfl,by kernel_rfl,by kernel_rfl⟩
noncomputable def zdn:Fact Tryz.prog:=⟨ID.wattlekeep_Within,(.pure [0] zad),zkf⟩
noncomputable def ze8 (a0 a1:Int):Option D:=
 brK (decide (a1 < 1))
  (some (.int .i64 0))
  (sif (a1≠0) <|
  letN (Int.tmod a0 a1) fun n1=>
  brK (decide (n1 < 0))
   (letN (IntKind.i64.wrap (n1+a1)) fun n2=>
   some (.int .i64 n2))
   (some (.int .i64 n1)))
theorem zoc (a0 a1:Int):denP Tryz.prog (zav []) zgH [0] ID.wattlekeep_Within [.int .i64 a0,.int .i64 a1]=ze8 a0 a1:=by kernel_rfl
theorem zk1 (a0 a1:Int):zad [.int .i64 a0,.int .i64 a1]=ze8 a0 a1:=zoc a0 a1
def zgI:Ann:={ loops:=[] }
noncomputable def zae:Zp:=denP Tryz.prog (zav []) zgI [0] ID.wattleref01_Check
theorem zkg:za3 Tryz.prog ID.wattleref01_Check (.pure [0] zae):=zan (zax []) zbs ⟨Tryz.f46,by kernel_rfl,by kernel_rfl,by kernel_rfl⟩
noncomputable def zcO:Fact Tryz.prog:=⟨ID.wattleref01_Check,(.pure [0] zae),zkg⟩
noncomputable def ze9 (a0_0 a0_1 a0_2:Int):Option D:=
 brK (a0_0 == 6)
  (brK (a0_0 == 5)
   (brK (decide (a0_1≥4))
    (brK (decide (a0_1≤8))
     (brK (a0_2 == 1)
      (some (.bool true))
      (brK (a0_2 == 2)
       (some (.bool true))
       (some (.bool (a0_2 == 4)))))
     (some (.bool false)))
    (some (.bool false)))
   (brK (a0_0 == 6)
    (brK (decide (a0_1≥4))
     (brK (decide (a0_1≤8))
      (brK (a0_2 == 1)
       (some (.bool true))
       (brK (a0_2 == 2)
        (some (.bool true))
        (some (.bool (a0_2 == 4)))))
      (some (.bool false)))
     (some (.bool false)))
    (some (.bool false))))
  (brK (a0_0 == 5)
   (brK (decide (a0_1≥3))
    (brK (decide (a0_1≤8))
     (brK (a0_2 == 1)
      (some (.bool true))
      (brK (a0_2 == 2)
       (some (.bool true))
       (some (.bool (a0_2 == 4)))))
     (some (.bool false)))
    (some (.bool false)))
   (brK (a0_0 == 6)
    (brK (decide (a0_1≥3))
     (brK (decide (a0_1≤8))
      (brK (a0_2 == 1)
       (some (.bool true))
       (brK (a0_2 == 2)
        (some (.bool true))
        (some (.bool (a0_2 == 4)))))
      (some (.bool false)))
     (some (.bool false)))
    (some (.bool false))))
theorem zod (a0_0 a0_1 a0_2:Int):denP Tryz.prog (zav []) zgI [0] ID.wattleref01_Check [.agg [.int .i64 a0_0,.int .i64 a0_1,.int .i64 a0_2]]=ze9 a0_0 a0_1 a0_2:=by kernel_rfl
theorem zk2 (a0_0 a0_1 a0_2:Int):zae [.agg [.int .i64 a0_0,.int .i64 a0_1,.int .i64 a0_2]]=ze9 a0_0 a0_1 a0_2:=zod a0_0 a0_1 a0_2
def zf1:Ann:={ loops:=[] }
noncomputable def zaE:Zp:=denP Tryz.prog (zav [(ID.wattleref01_Check,(.pure [0] zae))]) zf1 [0] ID.wattleref01_Budget
theorem zjr:za3 Tryz.prog ID.wattleref01_Budget (.pure [0] zaE):=zan (zax [zcO]) zbs ⟨Tryz.f95,by kernel_rfl,by kernel_rfl,by kernel_rfl⟩
noncomputable def zfB:Fact Tryz.prog:=⟨ID.wattleref01_Budget,(.pure [0] zaE),zjr⟩
noncomputable def zeM (zae:Zp) (a0_0 a0_1 a0_2:Int):Option D:=
 zam (zae [.agg [.int .i64 a0_0,.int .i64 a0_1,.int .i64 a0_2]]) fun r1=>
 asB r1 fun b2=>
 brK (!b2)
  (some (.int .i64 0))
  (letN (IntKind.i64.wrap (a0_0 - 4)) fun n3=>
  some (.int .i64 n3))
theorem zm8 (zae:Zp) (a0_0 a0_1 a0_2:Int):denP Tryz.prog (zav [(ID.wattleref01_Check,(.pure [0] zae))]) zf1 [0] ID.wattleref01_Budget [.agg [.int .i64 a0_0,.int .i64 a0_1,.int .i64 a0_2]]=zeM zae a0_0 a0_1 a0_2:=by kernel_rfl
theorem zkh (a0_0 a0_1 a0_2:Int):zaE [.agg [.int .i64 a0_0,.int .i64 a0_1,.int .i64 a0_2]]=zeM zae a0_0 a0_1 a0_2:=zm8 zae a0_0 a0_1 a0_2
def zgJ:Ann:={ loops:=[] }
noncomputable def zaa:Zp:=denP Tryz.prog (zav [(ID.wattleref01_Check,(.pure [0] zae)),(ID.wattleref01_Budget,(.pure [0] zaE))]) zgJ [0] ID.wattleref01_Width
theorem zki:za3 Tryz.prog ID.wattleref01_Width (.pure [0] zaa):=zan (zax [zcO,zfB]) zbs ⟨Tryz.f49,by kernel_rfl,by kernel_rfl,by kernel_rfl⟩
noncomputable def zbM:Fact Tryz.prog:=⟨ID.wattleref01_Width,(.pure [0] zaa),zki⟩
noncomputable def zfa (zae zaE:Zp) (a0_0 a0_1 a0_2:Int):Option D:=
 zam (zae [.agg [.int .i64 a0_0,.int .i64 a0_1,.int .i64 a0_2]]) fun r1=>
 asB r1 fun b2=>
 brK (!b2)
  (some (.int .i64 0))
  (zam (zaE [.agg [.int .i64 a0_0,.int .i64 a0_1,.int .i64 a0_2]]) fun r3=>
  asI .i64 r3 fun i4=>
  letN (IntKind.i64.wrap (a0_1 - i4)) fun n5=>
  some (.int .i64 n5))
theorem zoe (zae zaE:Zp) (a0_0 a0_1 a0_2:Int):denP Tryz.prog (zav [(ID.wattleref01_Check,(.pure [0] zae)),(ID.wattleref01_Budget,(.pure [0] zaE))]) zgJ [0] ID.wattleref01_Width [.agg [.int .i64 a0_0,.int .i64 a0_1,.int .i64 a0_2]]=zfa zae zaE a0_0 a0_1 a0_2:=by kernel_rfl
theorem zk3 (a0_0 a0_1 a0_2:Int):zaa [.agg [.int .i64 a0_0,.int .i64 a0_1,.int .i64 a0_2]]=zfa zae zaE a0_0 a0_1 a0_2:=zoe zae zaE a0_0 a0_1 a0_2
def zhS:Ann:={ loops:=[] }
noncomputable def zay:Zp:=denP Tryz.prog (zav [(ID.wattleref01_Check,(.pure [0] zae)),(ID.wattleref01_Width,(.pure [0] zaa))]) zhS [0] ID.wattleref01_Can
theorem zlV:za3 Tryz.prog ID.wattleref01_Can (.pure [0] zay):=zan (zax [zcO,zbM]) zbs ⟨Tryz.f83,by kernel_rfl,by kernel_rfl,by kernel_rfl⟩
noncomputable def zeN:Fact Tryz.prog:=⟨ID.wattleref01_Can,(.pure [0] zay),zlV⟩
noncomputable def zgg (zae zaa:Zp) (a0_0 a0_1 a0_2 a1_0 a1_1 a1_2:Int):Option D:=
 zam (zae [.agg [.int .i64 a0_0,.int .i64 a0_1,.int .i64 a0_2]]) fun r1=>
 asB r1 fun b2=>
 brK b2
  (zam (zae [.agg [.int .i64 a1_0,.int .i64 a1_1,.int .i64 a1_2]]) fun r3=>
  asB r3 fun b4=>
  brK b4
   (brK (!(a0_0 == a1_0 && (a0_1 == a1_1 && (a0_2 == a1_2 && true))))
    (brK (decide (a1_1≥a0_1))
     (brK (decide (a1_0≥a0_0))
      (zam (zaa [.agg [.int .i64 a1_0,.int .i64 a1_1,.int .i64 a1_2]]) fun r5=>
      asI .i64 r5 fun i6=>
      zam (zaa [.agg [.int .i64 a0_0,.int .i64 a0_1,.int .i64 a0_2]]) fun r7=>
      asI .i64 r7 fun i8=>
      some (.bool (decide (i6≥i8))))
      (some (.bool false)))
     (some (.bool false)))
    (some (.bool false)))
   (some (.bool false)))
  (some (.bool false))
theorem zqo (zae zaa:Zp) (a0_0 a0_1 a0_2 a1_0 a1_1 a1_2:Int):denP Tryz.prog (zav [(ID.wattleref01_Check,(.pure [0] zae)),(ID.wattleref01_Width,(.pure [0] zaa))]) zhS [0] ID.wattleref01_Can [.agg [.int .i64 a0_0,.int .i64 a0_1,.int .i64 a0_2],.agg [.int .i64 a1_0,.int .i64 a1_1,.int .i64 a1_2]]=zgg zae zaa a0_0 a0_1 a0_2 a1_0 a1_1 a1_2:=by kernel_rfl
theorem zm9 (a0_0 a0_1 a0_2 a1_0 a1_1 a1_2:Int):zay [.agg [.int .i64 a0_0,.int .i64 a0_1,.int .i64 a0_2],.agg [.int .i64 a1_0,.int .i64 a1_1,.int .i64 a1_2]]=zgg zae zaa a0_0 a0_1 a0_2 a1_0 a1_1 a1_2:=zqo zae zaa a0_0 a0_1 a0_2 a1_0 a1_1 a1_2
def zhT:Ann:={ loops:=[] }
noncomputable def zbR:Zp:=denP Tryz.prog (zav [(ID.wattlekeep_Within,(.pure [0] zad)),(ID.wattleref01_Can,(.pure [0] zay))]) zhT [0,0] ID.wattleplay_Pair
theorem zlW:za3 Tryz.prog ID.wattleplay_Pair (.pure [0,0] zbR):=zan (zax [zdn,zeN]) zbs ⟨Tryz.f38,by kernel_rfl,by kernel_rfl,by kernel_rfl⟩
noncomputable def zna:Fact Tryz.prog:=⟨ID.wattleplay_Pair,(.pure [0,0] zbR),zlW⟩
noncomputable def zgh (zad zay:Zp) (a0 a1:Int):Option D:=
 zam (zad [.int .i64 a0,.int .i64 2]) fun r1=>
 asI .i64 r1 fun i2=>
 letN (IntKind.i64.wrap (3+i2)) fun n3=>
 letN (IntKind.i64.wrap (Int.tdiv a0 (2:Int))) fun n4=>
 zam (zad [.int .i64 n4,.int .i64 3]) fun r5=>
 asI .i64 r5 fun i6=>
 sif (0≤i6) <|
 getK ([.int .i64 1,.int .i64 2,.int .i64 4]) (i6.toNat) fun d7=>
 asI .i64 d7 fun i8=>
 letN (IntKind.i64.wrap (Int.tdiv a0 (6:Int))) fun n9=>
 zam (zad [.int .i64 n9,.int .i64 4]) fun r10=>
 asI .i64 r10 fun i11=>
 brK (i11 == 3)
  (zam (zad [.int .i64 a0,.int .i64 2]) fun r12=>
  asI .i64 r12 fun i13=>
  letN (IntKind.i64.wrap (4+i13)) fun n14=>
  zam (zad [.int .i64 a1,.int .i64 3]) fun r15=>
  asI .i64 r15 fun i16=>
  letN (IntKind.i64.wrap (n14+i16)) fun n17=>
  letN (IntKind.i64.wrap (Int.tdiv a1 (3:Int))) fun n18=>
  zam (zad [.int .i64 n18,.int .i64 3]) fun r19=>
  asI .i64 r19 fun i20=>
  sif (0≤i20) <|
  getK ([.int .i64 1,.int .i64 2,.int .i64 4]) (i20.toNat) fun d21=>
  asI .i64 d21 fun i22=>
  zam (zay [.agg [.int .i64 6,.int .i64 n14,.int .i64 i8],.agg [.int .i64 6,.int .i64 n17,.int .i64 i22]]) fun r23=>
  asB r23 fun b24=>
  brK (!b24)
   (letN (IntKind.i64.wrap (n17+1)) fun n25=>
   some (.tup [.agg [.int .i64 6,.int .i64 n14,.int .i64 i8],.agg [.int .i64 6,.int .i64 n25,.int .i64 i22]]))
   (some (.tup [.agg [.int .i64 6,.int .i64 n14,.int .i64 i8],.agg [.int .i64 6,.int .i64 n17,.int .i64 i22]])))
  (zam (zad [.int .i64 a1,.int .i64 3]) fun r26=>
  asI .i64 r26 fun i27=>
  letN (IntKind.i64.wrap (n3+i27)) fun n28=>
  letN (IntKind.i64.wrap (Int.tdiv a1 (3:Int))) fun n29=>
  zam (zad [.int .i64 n29,.int .i64 3]) fun r30=>
  asI .i64 r30 fun i31=>
  sif (0≤i31) <|
  getK ([.int .i64 1,.int .i64 2,.int .i64 4]) (i31.toNat) fun d32=>
  asI .i64 d32 fun i33=>
  letN (IntKind.i64.wrap (Int.tdiv a1 (9:Int))) fun n34=>
  zam (zad [.int .i64 n34,.int .i64 2]) fun r35=>
  asI .i64 r35 fun i36=>
  brK (i36 == 1)
   (letN (IntKind.i64.wrap (n3+1)) fun n37=>
   letN (max n28 n37) fun n38=>
   zam (zay [.agg [.int .i64 5,.int .i64 n3,.int .i64 i8],.agg [.int .i64 6,.int .i64 n38,.int .i64 i33]]) fun r39=>
   asB r39 fun b40=>
   brK (!b40)
    (letN (IntKind.i64.wrap (n38+1)) fun n41=>
    some (.tup [.agg [.int .i64 5,.int .i64 n3,.int .i64 i8],.agg [.int .i64 6,.int .i64 n41,.int .i64 i33]]))
    (some (.tup [.agg [.int .i64 5,.int .i64 n3,.int .i64 i8],.agg [.int .i64 6,.int .i64 n38,.int .i64 i33]])))
   (zam (zay [.agg [.int .i64 5,.int .i64 n3,.int .i64 i8],.agg [.int .i64 5,.int .i64 n28,.int .i64 i33]]) fun r42=>
   asB r42 fun b43=>
   brK (!b43)
    (letN (IntKind.i64.wrap (n28+1)) fun n44=>
    some (.tup [.agg [.int .i64 5,.int .i64 n3,.int .i64 i8],.agg [.int .i64 5,.int .i64 n44,.int .i64 i33]]))
    (some (.tup [.agg [.int .i64 5,.int .i64 n3,.int .i64 i8],.agg [.int .i64 5,.int .i64 n28,.int .i64 i33]]))))
theorem zqp (zad zay:Zp) (a0 a1:Int):denP Tryz.prog (zav [(ID.wattlekeep_Within,(.pure [0] zad)),(ID.wattleref01_Can,(.pure [0] zay))]) zhT [0,0] ID.wattleplay_Pair [.int .i64 a0,.int .i64 a1]=zgh zad zay a0 a1:=by kernel_rfl
theorem znb (a0 a1:Int):zbR [.int .i64 a0,.int .i64 a1]=zgh zad zay a0 a1:=zqp zad zay a0 a1
def zrl:Ann:={ loops:=[],pubs:=[(1,[(0,128,8225)])],ks:=[(8225,true)] }
noncomputable def zdu:Zs:=denS Tryz.prog (zav []) zrl [0] ID.disk_New
theorem zue:za3 Tryz.prog ID.disk_New (.st [] [0] [(8225,true)] zdu):=zbg (zax []) zbs ⟨Tryz.f94,by kernel_rfl,by kernel_rfl,by kernel_rfl⟩
noncomputable def zwB:Fact Tryz.prog:=⟨ID.disk_New,(.st [] [0] [(8225,true)] zdu),zue⟩
noncomputable def zqq (T0:Tb):Option Ans:=
 letT (T0++[List.map D.own0 (List.reverse ([.bool false,.sl .nil []]++List.replicate 1664 (.int .u8 0)))]) fun U1=>
 some (Ans.mk (.h (8225:Nat) (T0.length) (0:Nat)) [] [U1])
theorem zBQ (T0:Tb):denS Tryz.prog (zav []) zrl [0] ID.disk_New [] [T0]=zqq T0:=by kernel_rfl
theorem zwC (T0:Tb):zdu [] [T0]=zqq T0:=zBQ T0
def zpn:Ann:={ loops:=[(1,dd 4 (.val (.cell (.hnd (2496:Nat)))::dd 9 [.val (.cell (.int .i64)),.val (.cell (.int .i64))]))],pubs:=[(3,[(4,42,2496)])],ks:=[(2496,true),(8225,true)] }
noncomputable def zbL:Zs:=denS Tryz.prog (zav [(ID.disk_New,(.st [] [0] [(8225,true)] zdu))]) zpn [0,0] ID.bench_New
theorem ztm:za3 Tryz.prog ID.bench_New (.st [] [0,0] [(2496,true),(8225,true)] zbL):=zbg (zax [zwB]) zbs ⟨Tryz.f47,by kernel_rfl,by kernel_rfl,by kernel_rfl⟩
noncomputable def znH:Fact Tryz.prog:=⟨ID.bench_New,(.st [] [0,0] [(2496,true),(8225,true)] zbL),ztm⟩
noncomputable def zof (zdu:Zs) (a0:Int) (T0 T1:Tb):Option Ans:=
 brK (decide (a0 < 1))
  (some (Ans.mk (.tup [D.nilp,.int .i64 1]) [] [T0,T1]))
  (brK (decide (a0 > 8))
   (some (Ans.mk (.tup [D.nilp,.int .i64 1]) [] [T0,T1]))
   (letT (T0++[[D.own0 (.int .i64 0),D.own0 (.int .i64 (-1)),D.own0 (.bool false),D.own0 (.sl .nil [])]]) fun U1=>
   zca (α:=(Nat×Int×Int×PUnit)×List (List D)×List (List D)×PUnit) (fun again2 ((x3,(i4,(i5,_))),(U6,(U7,_)))=>
    brK (decide (i5 < i4))
     (getK U6 x3 fun d8=>
     getK d8 ((3:Nat)) fun d9=>
     za7 d9 fun l10=>
     zam (zdu [] [U7]) fun r11=>
     nilK r11.outs <|
     zdd r11.tbs fun c12 q13=>
     nilK q13 <|
     sif (zhO r11.r=true) <|
     sif (zeK (1:Nat) [r11.r]=true) <|
     getK U6 x3 fun d14=>
     getK d14 ((3:Nat)) fun d15=>
     za7 d15 fun l16=>
     sif (l10.length+1≤4294967296) <|
     sif (zeK (1:Nat) [r11.r]=true) <|
     sif (l10.length=l16.length) <|
     letT (setT U6 x3 (3:Nat) D.undef) fun U17=>
     getK U17 x3 fun d18=>
     sif (4≤d18.length) <|
     sif (l10.length+1=List.length (l16++[r11.r])) <|
     sif (zdK (l16++[r11.r])=true) <|
     sif (zgD (1:Nat) (l16++[r11.r])=true) <|
     letT (zaU U17 x3 (3:Nat) [.sl .own (l16++[r11.r])]) fun U19=>
     letN (IntKind.i64.wrap (i5+1)) fun n20=>
     again2 (((x3,i4,n20,unit),U19,c12,unit)))
     (some (Ans.mk (.tup [.h (2496) x3 (0:Nat),.int .i64 0]) [] [U6,U7])))
    (((T0.length,a0,(0:Int),unit),U1,T1,unit))))
theorem zzG (zdu:Zs) (a0:Int) (T0 T1:Tb):denS Tryz.prog (zav [(ID.disk_New,(.st [] [0] [(8225,true)] zdu))]) zpn [0,0] ID.bench_New [.int .i64 a0] [T0,T1]=zof zdu a0 T0 T1:=by kernel_rfl
theorem zuf (a0:Int) (T0 T1:Tb):zbL [.int .i64 a0] [T0,T1]=zof zdu a0 T0 T1:=zzG zdu a0 T0 T1
def zgK:Ann:={ loops:=[(1,.val (.cell (.int .i64))::dd 2 (.own 1::dd 7 [.val (.cell (.int .i64)),.val (.cell (.int .i64))]))] }
noncomputable def zbn:Zp:=denP Tryz.prog (zav [(ID.wattlekeep_Within,(.pure [0] zad))]) zgK [1] ID.wattleplay_Sector
theorem zkj:za3 Tryz.prog ID.wattleplay_Sector (.pure [1] zbn):=zan (zax [zdn]) zbs ⟨Tryz.f13,by kernel_rfl,by kernel_rfl,by kernel_rfl⟩
noncomputable def zk4:Fact Tryz.prog:=⟨ID.wattleplay_Sector,(.pure [1] zbn),zkj⟩
noncomputable def zfb (zad:Zp) (a0:Int):Option D:=
 zam (zad [.int .i64 a0,.int .i64 11]) fun r1=>
 asI .i64 r1 fun i2=>
 brK (i2 == 10)
  (some (.sl .own [.int .u8 0,.int .u8 0,.int .u8 0,.int .u8 0,.int .u8 0,.int .u8 0,.int .u8 0,.int .u8 0,.int .u8 0,.int .u8 0,.int .u8 0,.int .u8 0,.int .u8 0,.int .u8 0,.int .u8 0,.int .u8 0,.int .u8 0,.int .u8 0,.int .u8 0,.int .u8 0,.int .u8 0,.int .u8 0,.int .u8 0,.int .u8 0,.int .u8 0,.int .u8 0,.int .u8 0,.int .u8 0,.int .u8 0,.int .u8 0,.int .u8 0,.int .u8 0]))
  (zca (α:=(Int×List D×Int×Int×PUnit)×PUnit) (fun again3 ((i4,(l5,(i6,(i7,_)))),_)=>
   brK (decide (i7 < i6))
    (letN (IntKind.i64.wrap (Int.tdiv i4 (7:Int))) fun n8=>
    letN (bits BinOp.or IntKind.i64 n8 (1:Int)) fun n9=>
    letN (IntKind.i64.wrap (i7*n9)) fun n10=>
    letN (IntKind.i64.wrap (i4+n10)) fun n11=>
    letN (IntKind.wrap IntKind.u8 n11) fun n12=>
    sif (0≤i7) <|
    sif (i7.toNat < l5.length) <|
    getK l5 (0+i7.toNat) fun d13=>
    sif (D.isAgg d13=false) <|
    letN (IntKind.i64.wrap (i7+1)) fun n14=>
    sif (l5.length=List.length (List.set l5 (0+i7.toNat) (D.int .u8 n12))) <|
    again3 (((i4,List.set l5 (0+i7.toNat) (.int .u8 n12),i6,n14,unit),unit)))
    (sif (l5.length=l5.length) <|
    sif (List.all l5 D.free=true) <|
    some (.sl .own l5)))
   (((a0,[.int .u8 0,.int .u8 0,.int .u8 0,.int .u8 0,.int .u8 0,.int .u8 0,.int .u8 0,.int .u8 0,.int .u8 0,.int .u8 0,.int .u8 0,.int .u8 0,.int .u8 0,.int .u8 0,.int .u8 0,.int .u8 0,.int .u8 0,.int .u8 0,.int .u8 0,.int .u8 0,.int .u8 0,.int .u8 0,.int .u8 0,.int .u8 0,.int .u8 0,.int .u8 0,.int .u8 0,.int .u8 0,.int .u8 0,.int .u8 0,.int .u8 0,.int .u8 0],(32:Int),(0:Int),unit),unit)))
theorem zog (zad:Zp) (a0:Int):denP Tryz.prog (zav [(ID.wattlekeep_Within,(.pure [0] zad))]) zgK [1] ID.wattleplay_Sector [.int .i64 a0]=zfb zad a0:=by kernel_rfl
theorem zk5 (a0:Int):zbn [.int .i64 a0]=zfb zad a0:=zog zad a0
def zf2:Ann:={ loops:=[(0,.val (.cell .lent)::.val (.cell (.int .i64))::dd 3 [.own 1,.val (.cell (.int .i64))])] }
noncomputable def zaF:Zp:=denP Tryz.prog (zav [(ID.wattleplay_Sector,(.pure [1] zbn))]) zf2 [1] ID.wattleplay_Sectors
theorem zjs:za3 Tryz.prog ID.wattleplay_Sectors (.pure [1] zaF):=zan (zax [zk4]) zbs ⟨Tryz.f48,by kernel_rfl,by kernel_rfl,by kernel_rfl⟩
noncomputable def zfC:Fact Tryz.prog:=⟨ID.wattleplay_Sectors,(.pure [1] zaF),zjs⟩
noncomputable def zeO (zbn:Zp) (a0:List D) (a1:Int):Option D:=
 zca (α:=(List D×Int×List D×Int×PUnit)×PUnit) (fun again1 ((l2,(i3,(l4,(i5,_)))),_)=>
  brK (decide (i5 < i3))
   (letN (IntKind.i64.wrap ((3:Int)*i5)) fun n6=>
   brK (decide (i5 < (↑(l2.length):Int)))
    (sif (0≤i5) <|
    getK l2 (i5.toNat) fun d7=>
    asI .i64 d7 fun i8=>
    zam (zbn [.int .i64 i8]) fun r9=>
    za7 r9 fun l10=>
    sif (0+l10.length≤l10.length) <|
    sif (l4.length+1≤4294967296) <|
    sif (l4.length=l4.length) <|
    letN (IntKind.i64.wrap (i5+1)) fun n11=>
    sif (l4.length+1=List.length (l4++[D.sl .fresh (cut 0 l10.length l10)])) <|
    again1 (((l2,i3,l4++[.sl .fresh (cut 0 l10.length l10)],n11,unit),unit)))
    (zam (zbn [.int .i64 n6]) fun r12=>
    za7 r12 fun l13=>
    sif (0+l13.length≤l13.length) <|
    sif (l4.length+1≤4294967296) <|
    sif (l4.length=l4.length) <|
    letN (IntKind.i64.wrap (i5+1)) fun n14=>
    sif (l4.length+1=List.length (l4++[D.sl .fresh (cut 0 l13.length l13)])) <|
    again1 (((l2,i3,l4++[.sl .fresh (cut 0 l13.length l13)],n14,unit),unit))))
   (sif (l4.length=l4.length) <|
   sif (List.all l4 D.free=true) <|
   some (.sl .own l4)))
  (((a0,a1,[],(0:Int),unit),unit))
theorem znc (zbn:Zp) (tga0:Tag) (a0:List D) (a1:Int):denP Tryz.prog (zav [(ID.wattleplay_Sector,(.pure [1] zbn))]) zf2 [1] ID.wattleplay_Sectors [.sl tga0 a0,.int .i64 a1]=zeO zbn (D.lentL a0) a1:=by kernel_rfl
theorem zkk (tga0:Tag) (a0:List D) (a1:Int):zaF [.sl tga0 a0,.int .i64 a1]=zeO zbn (D.lentL a0) a1:=znc zbn tga0 a0 a1
def zg6:Ann:={ loops:=[] }
noncomputable def zak:Zp:=denP Tryz.prog (zav [(ID.wattleref01_Check,(.pure [0] zae))]) zg6 [0] ID.wattleref01_fine
theorem zk6:za3 Tryz.prog ID.wattleref01_fine (.pure [0] zak):=zan (zax [zcO]) zbs ⟨Tryz.f59,by kernel_rfl,by kernel_rfl,by kernel_rfl⟩
noncomputable def zdA:Fact Tryz.prog:=⟨ID.wattleref01_fine,(.pure [0] zak),zk6⟩
noncomputable def zfD (zae:Zp) (a0_0 a0_1 a0_2 a1:Int):Option D:=
 zam (zae [.agg [.int .i64 a0_0,.int .i64 a0_1,.int .i64 a0_2]]) fun r1=>
 asB r1 fun b2=>
 brK b2
  (brK (decide (a1≥0))
   (some (.bool (decide (a1 < 16))))
   (some (.bool false)))
  (some (.bool false))
theorem zpo (zae:Zp) (a0_0 a0_1 a0_2 a1:Int):denP Tryz.prog (zav [(ID.wattleref01_Check,(.pure [0] zae))]) zg6 [0] ID.wattleref01_fine [.agg [.int .i64 a0_0,.int .i64 a0_1,.int .i64 a0_2],.int .i64 a1]=zfD zae a0_0 a0_1 a0_2 a1:=by kernel_rfl
theorem zlX (a0_0 a0_1 a0_2 a1:Int):zak [.agg [.int .i64 a0_0,.int .i64 a0_1,.int .i64 a0_2],.int .i64 a1]=zfD zae a0_0 a0_1 a0_2 a1:=zpo zae a0_0 a0_1 a0_2 a1
def zf3:Ann:={ loops:=[] }
noncomputable def zaD:Zp:=denP Tryz.prog (zav [(ID.wattleref01_fine,(.pure [0] zak))]) zf3 [0,0] ID.wattleref01_Parity
theorem zjt:za3 Tryz.prog ID.wattleref01_Parity (.pure [0,0] zaD):=zan (zax [zdA]) zbs ⟨Tryz.f91,by kernel_rfl,by kernel_rfl,by kernel_rfl⟩
noncomputable def zfE:Fact Tryz.prog:=⟨ID.wattleref01_Parity,(.pure [0,0] zaD),zjt⟩
noncomputable def zeP (zak:Zp) (a0_0 a0_1 a0_2 a1:Int):Option D:=
 zam (zak [.agg [.int .i64 a0_0,.int .i64 a0_1,.int .i64 a0_2],.int .i64 a1]) fun r1=>
 asB r1 fun b2=>
 brK (!b2)
  (some (.tup [.int .i64 (-1),.int .i64 (-1)]))
  (letN (IntKind.i64.wrap (a0_1 - 1)) fun n3=>
  sif (a0_2≠0) <|
  letN (IntKind.i64.wrap (Int.tdiv a1 a0_2)) fun n4=>
  sif (a0_1≠0) <|
  letN (Int.tmod n4 a0_1) fun n5=>
  letN (IntKind.i64.wrap (n3 - n5)) fun n6=>
  brK (a0_0 == 5)
   (some (.tup [.int .i64 n6,.int .i64 (-1)]))
   (letN (IntKind.i64.wrap (n6+1)) fun n7=>
   sif (a0_1≠0) <|
   letN (Int.tmod n7 a0_1) fun n8=>
   some (.tup [.int .i64 n6,.int .i64 n8])))
theorem znd (zak:Zp) (a0_0 a0_1 a0_2 a1:Int):denP Tryz.prog (zav [(ID.wattleref01_fine,(.pure [0] zak))]) zf3 [0,0] ID.wattleref01_Parity [.agg [.int .i64 a0_0,.int .i64 a0_1,.int .i64 a0_2],.int .i64 a1]=zeP zak a0_0 a0_1 a0_2 a1:=by kernel_rfl
theorem zkl (a0_0 a0_1 a0_2 a1:Int):zaD [.agg [.int .i64 a0_0,.int .i64 a0_1,.int .i64 a0_2],.int .i64 a1]=zeP zak a0_0 a0_1 a0_2 a1:=znd zak a0_0 a0_1 a0_2 a1
def zg7:Ann:={ loops:=[] }
noncomputable def zaM:Zp:=denP Tryz.prog (zav [(ID.wattleref01_fine,(.pure [0] zak)),(ID.wattleref01_Width,(.pure [0] zaa)),(ID.wattleref01_Parity,(.pure [0,0] zaD)),(ID.wattleref01_Budget,(.pure [0] zaE))]) zg7 [0] ID.wattleref01_Disk
theorem zk7:za3 Tryz.prog ID.wattleref01_Disk (.pure [0] zaM):=zan (zax [zdA,zbM,zfE,zfB]) zbs ⟨Tryz.f52,by kernel_rfl,by kernel_rfl,by kernel_rfl⟩
noncomputable def zgL:Fact Tryz.prog:=⟨ID.wattleref01_Disk,(.pure [0] zaM),zk7⟩
noncomputable def zfF (zak zaa zaD zaE:Zp) (a0_0 a0_1 a0_2 a1 a2:Int):Option D:=
 zam (zak [.agg [.int .i64 a0_0,.int .i64 a0_1,.int .i64 a0_2],.int .i64 a1]) fun r1=>
 asB r1 fun b2=>
 brK (!b2)
  (some (.int .i64 (-1)))
  (brK (decide (a2 < 0))
   (some (.int .i64 (-1)))
   (zam (zaa [.agg [.int .i64 a0_0,.int .i64 a0_1,.int .i64 a0_2]]) fun r3=>
   asI .i64 r3 fun i4=>
   brK (decide (a2≥i4))
    (some (.int .i64 (-1)))
    (zam (zaD [.agg [.int .i64 a0_0,.int .i64 a0_1,.int .i64 a0_2],.int .i64 a1]) fun r5=>
    zdi r5 fun ts6=>
    zaw ([Lf.any,Lf.any]) ts6 fun c7=>
    asI .i64 c7.1 fun i8=>
    asI .i64 c7.2.1 fun i9=>
    zam (zaE [.agg [.int .i64 a0_0,.int .i64 a0_1,.int .i64 a0_2]]) fun r10=>
    asI .i64 r10 fun i11=>
    letN (IntKind.i64.wrap (i8+i11)) fun n12=>
    letN (IntKind.i64.wrap (n12+a2)) fun n13=>
    sif (a0_1≠0) <|
    letN (Int.tmod n13 a0_1) fun n14=>
    some (.int .i64 n14))))
theorem zpp (zak zaa zaD zaE:Zp) (a0_0 a0_1 a0_2 a1 a2:Int):denP Tryz.prog (zav [(ID.wattleref01_fine,(.pure [0] zak)),(ID.wattleref01_Width,(.pure [0] zaa)),(ID.wattleref01_Parity,(.pure [0,0] zaD)),(ID.wattleref01_Budget,(.pure [0] zaE))]) zg7 [0] ID.wattleref01_Disk [.agg [.int .i64 a0_0,.int .i64 a0_1,.int .i64 a0_2],.int .i64 a1,.int .i64 a2]=zfF zak zaa zaD zaE a0_0 a0_1 a0_2 a1 a2:=by kernel_rfl
theorem zlY (a0_0 a0_1 a0_2 a1 a2:Int):zaM [.agg [.int .i64 a0_0,.int .i64 a0_1,.int .i64 a0_2],.int .i64 a1,.int .i64 a2]=zfF zak zaa zaD zaE a0_0 a0_1 a0_2 a1 a2:=zpp zak zaa zaD zaE a0_0 a0_1 a0_2 a1 a2
def zgM:Ann:={ loops:=[(0,.val (.cell .lent)::dd 4 [.val (.cell .lent),.val (.cell (.int .i64)),.val (.cell (.int .i64))])] }
noncomputable def zaJ:Zp:=denP Tryz.prog (zav []) zgM [0] ID.wattleref01_alike
theorem zkm:za3 Tryz.prog ID.wattleref01_alike (.pure [0] zaJ):=zan (zax []) zbs ⟨Tryz.f126,by kernel_rfl,by kernel_rfl,by kernel_rfl⟩
noncomputable def zf4:Fact Tryz.prog:=⟨ID.wattleref01_alike,(.pure [0] zaJ),zkm⟩
noncomputable def zfc (a0:List D):Option D:=
 zca (α:=(List D×List D×Int×Int×PUnit)×PUnit) (fun again1 ((l2,(l3,(i4,(i5,_)))),_)=>
  brK (decide (i5 < i4))
   (sif (0≤i5) <|
   getK l3 (i5.toNat) fun d6=>
   asSl d6 fun t7 l8=>
   getK l2 ((0:Nat)) fun d9=>
   asSl d9 fun t10 l11=>
   brK ((↑(l8.length):Int) != (↑(l11.length):Int))
    (some (.bool false))
    (letN (IntKind.i64.wrap (i5+1)) fun n12=>
    again1 (((l2,l3,i4,n12,unit),unit))))
   (some (.bool (decide ((↑(l2.length):Int) > 0)))))
  (((a0,a0,(↑(a0.length):Int),(0:Int),unit),unit))
theorem zoh (tga0:Tag) (a0:List D):denP Tryz.prog (zav []) zgM [0] ID.wattleref01_alike [.sl tga0 a0]=zfc (D.lentL a0):=by kernel_rfl
theorem zk8 (tga0:Tag) (a0:List D):zaJ [.sl tga0 a0]=zfc (D.lentL a0):=zoh tga0 a0
def zju:Ann:={ loops:=[(1,dd 3 (.own 1::dd 12 [.val (.cell .lent),.val (.cell (.int .i64)),.val (.cell (.int .i64))])),(3,dd 3 (.own 1::dd 12 (.val (.cell .lent)::.val (.cell (.int .i64))::.val (.cell (.int .i64))::dd 3 [.val (.cell .sl),.val (.cell (.int .i64)),.val (.cell (.int .i64))])))] }
noncomputable def zb8:Zp:=denP Tryz.prog (zav [(ID.wattleref01_alike,(.pure [0] zaJ))]) zju [1] ID.wattleref01_P
theorem zoi:za3 Tryz.prog ID.wattleref01_P (.pure [1] zb8):=zan (zax [zf4]) zbs ⟨Tryz.f92,by kernel_rfl,by kernel_rfl,by kernel_rfl⟩
noncomputable def zpq:Fact Tryz.prog:=⟨ID.wattleref01_P,(.pure [1] zb8),zoi⟩
noncomputable def zhU (zaJ:Zp) (a0:List D):Option D:=
 zam (zaJ [.sl .lent a0]) fun r1=>
 asB r1 fun b2=>
 brK (!b2)
  (some (.sl .own []))
  (getK a0 ((0:Nat)) fun d3=>
  asSl d3 fun t4 l5=>
  sif ((↑(l5.length):Int)=(↑(l5.length):Int)) <|
  sif ((↑(l5.length):Int)*1≤140737488355328) <|
  sif ((↑(l5.length):Int)≤140737488355328) <|
  sif (Int.toNat (↑(l5.length):Int)=List.length (List.replicate (Int.toNat (↑(l5.length):Int)) (D.int .u8 0))) <|
  zca (α:=(List D×List D×Int×Int×PUnit)×PUnit) (fun again6 ((l7,(l8,(i9,(i10,_)))),_)=>
   brK (decide (i10 < i9))
    (sif (0≤i10) <|
    getK l8 (i10.toNat) fun d11=>
    asSl d11 fun t12 l13=>
    sif (l7.length=l7.length) <|
    zca (α:=(List D×List D×Int×Int×(Tag×List D)×Int×Int×PUnit)×PUnit) (fun again14 ((l15,(l16,(i17,(i18,((t19,l20),(i21,(i22,_))))))),_)=>
     brK (decide (i22 < i21))
      (sif (0≤i22) <|
      getK l20 (i22.toNat) fun d23=>
      asI .u8 d23 fun i24=>
      sif (0≤i22) <|
      sif (i22.toNat < l15.length) <|
      getK l15 (0+i22.toNat) fun d25=>
      asI .u8 d25 fun i26=>
      letN (bits BinOp.xor IntKind.u8 i26 i24) fun n27=>
      sif (0≤i22) <|
      sif (i22.toNat < l15.length) <|
      getK l15 (0+i22.toNat) fun d28=>
      sif (D.isAgg d28=false) <|
      letN (IntKind.i64.wrap (i22+1)) fun n29=>
      sif (l15.length=List.length (List.set l15 (0+i22.toNat) (D.int .u8 n27))) <|
      again14 (((List.set l15 (0+i22.toNat) (.int .u8 n27),l16,i17,i18,(t19,l20),i21,n29,unit),unit)))
      (letN (IntKind.i64.wrap (i18+1)) fun n30=>
      sif (l15.length=l15.length) <|
      again6 (((l15,l16,i17,n30,unit),unit))))
     (((l7,l8,i9,i10,(t12,l13),(↑(l13.length):Int),(0:Int),unit),unit)))
    (sif (l7.length=l7.length) <|
    sif (List.all l7 D.free=true) <|
    some (.sl .own l7)))
   (((List.replicate (Int.toNat (↑(l5.length):Int)) (.int .u8 0),a0,(↑(a0.length):Int),(0:Int),unit),unit)))
theorem ztn (zaJ:Zp) (tga0:Tag) (a0:List D):denP Tryz.prog (zav [(ID.wattleref01_alike,(.pure [0] zaJ))]) zju [1] ID.wattleref01_P [.sl tga0 a0]=zhU zaJ (D.lentL a0):=by kernel_rfl
theorem zpr (tga0:Tag) (a0:List D):zb8 [.sl tga0 a0]=zhU zaJ (D.lentL a0):=ztn zaJ tga0 a0
def zhV:Ann:={ loops:=[(0,.dead::.val (.cell (.int .u8))::dd 3 [.val (.cell (.int .i64)),.val (.cell (.int .i64)),.val (.cell (.int .i64))])] }
noncomputable def zaS:Zp:=denP Tryz.prog (zav []) zhV [0] ID.wattleref01_Mul
theorem zlZ:za3 Tryz.prog ID.wattleref01_Mul (.pure [0] zaS):=zan (zax []) zbs ⟨Tryz.f128,by kernel_rfl,by kernel_rfl,by kernel_rfl⟩
noncomputable def zg8:Fact Tryz.prog:=⟨ID.wattleref01_Mul,(.pure [0] zaS),zlZ⟩
noncomputable def zgi (a0 a1:Int):Option D:=
 letN (IntKind.wrap IntKind.i64 a0) fun n1=>
 zca (α:=(Int×Int×Int×Int×PUnit)×PUnit) (fun again2 ((i3,(i4,(i5,(i6,_)))),_)=>
  brK (decide (i6 < 8))
   (letN (IntKind.wrap IntKind.u64 i6) fun n7=>
   sif (0≤n7) <|
   letN (Int.fdiv i3 ((2:Int) ^ min (n7.toNat) (8:Nat))) fun n8=>
   letN (bits BinOp.and IntKind.u8 n8 (1:Int)) fun n9=>
   brK (n9 == 1)
    (letN (bits BinOp.xor IntKind.i64 i5 i4) fun n10=>
    letN (IntKind.i64.wrap (i4*2)) fun n11=>
    brK (decide (n11 > 255))
     (letN (bits BinOp.xor IntKind.i64 n11 (285:Int)) fun n12=>
     letN (IntKind.i64.wrap (i6+1)) fun n13=>
     again2 (((i3,n12,n10,n13,unit),unit)))
     (letN (IntKind.i64.wrap (i6+1)) fun n14=>
     again2 (((i3,n11,n10,n14,unit),unit))))
    (letN (IntKind.i64.wrap (i4*2)) fun n15=>
    brK (decide (n15 > 255))
     (letN (bits BinOp.xor IntKind.i64 n15 (285:Int)) fun n16=>
     letN (IntKind.i64.wrap (i6+1)) fun n17=>
     again2 (((i3,n16,i5,n17,unit),unit)))
     (letN (IntKind.i64.wrap (i6+1)) fun n18=>
     again2 (((i3,n15,i5,n18,unit),unit)))))
   (letN (IntKind.wrap IntKind.u8 i5) fun n19=>
   some (.int .u8 n19)))
  (((a1,n1,(0:Int),(0:Int),unit),unit))
theorem zqr (a0 a1:Int):denP Tryz.prog (zav []) zhV [0] ID.wattleref01_Mul [.int .u8 a0,.int .u8 a1]=zgi a0 a1:=by kernel_rfl
theorem zne (a0 a1:Int):zaS [.int .u8 a0,.int .u8 a1]=zgi a0 a1:=zqr a0 a1
def zhW:Ann:={ loops:=[(1,[.val (.cell (.int .i64)),.dead,.dead,.val (.cell (.int .u8))])] }
noncomputable def zbS:Zp:=denP Tryz.prog (zav [(ID.wattleref01_Mul,(.pure [0] zaS))]) zhW [0] ID.wattleref01_Pow
theorem zl0:za3 Tryz.prog ID.wattleref01_Pow (.pure [0] zbS):=zan (zax [zg8]) zbs ⟨Tryz.f127,by kernel_rfl,by kernel_rfl,by kernel_rfl⟩
noncomputable def znf:Fact Tryz.prog:=⟨ID.wattleref01_Pow,(.pure [0] zbS),zl0⟩
noncomputable def zgj (zaS:Zp) (a0:Int):Option D:=
 letN (Int.tmod a0 (255:Int)) fun n1=>
 brK (decide (n1 < 0))
  (letN (IntKind.i64.wrap (n1+255)) fun n2=>
  zca (α:=(Int×Int×PUnit)×PUnit) (fun again3 ((i4,(i5,_)),_)=>
   brK (decide (i4 > 0))
    (zam (zaS [.int .u8 i5,.int .u8 2]) fun r6=>
    asI .u8 r6 fun i7=>
    letN (IntKind.i64.wrap (i4 - 1)) fun n8=>
    again3 (((n8,i7,unit),unit)))
    (some (.int .u8 i5)))
   (((n2,(1:Int),unit),unit)))
  (zca (α:=(Int×Int×PUnit)×PUnit) (fun again9 ((i10,(i11,_)),_)=>
   brK (decide (i10 > 0))
    (zam (zaS [.int .u8 i11,.int .u8 2]) fun r12=>
    asI .u8 r12 fun i13=>
    letN (IntKind.i64.wrap (i10 - 1)) fun n14=>
    again9 (((n14,i13,unit),unit)))
    (some (.int .u8 i11)))
   (((n1,(1:Int),unit),unit)))
theorem zqs (zaS:Zp) (a0:Int):denP Tryz.prog (zav [(ID.wattleref01_Mul,(.pure [0] zaS))]) zhW [0] ID.wattleref01_Pow [.int .i64 a0]=zgj zaS a0:=by kernel_rfl
theorem zng (a0:Int):zbS [.int .i64 a0]=zgj zaS a0:=zqs zaS a0
def zjv:Ann:={ loops:=[(1,dd 3 (.own 1::dd 13 [.val (.cell .lent),.val (.cell (.int .i64)),.val (.cell (.int .i64))])),(3,dd 3 (.own 1::dd 2 (.val (.cell (.int .u8))::dd 10 (.val (.cell .lent)::.val (.cell (.int .i64))::.val (.cell (.int .i64))::dd 6 [.val (.cell .sl),.val (.cell (.int .i64)),.val (.cell (.int .i64))]))))] }
noncomputable def zb9:Zp:=denP Tryz.prog (zav [(ID.wattleref01_alike,(.pure [0] zaJ)),(ID.wattleref01_Pow,(.pure [0] zbS)),(ID.wattleref01_Mul,(.pure [0] zaS))]) zjv [1] ID.wattleref01_Q
theorem zoj:za3 Tryz.prog ID.wattleref01_Q (.pure [1] zb9):=zan (zax [zf4,znf,zg8]) zbs ⟨Tryz.f93,by kernel_rfl,by kernel_rfl,by kernel_rfl⟩
noncomputable def zps:Fact Tryz.prog:=⟨ID.wattleref01_Q,(.pure [1] zb9),zoj⟩
noncomputable def zhX (zaJ zbS zaS:Zp) (a0:List D):Option D:=
 zam (zaJ [.sl .lent a0]) fun r1=>
 asB r1 fun b2=>
 brK (!b2)
  (some (.sl .own []))
  (getK a0 ((0:Nat)) fun d3=>
  asSl d3 fun t4 l5=>
  sif ((↑(l5.length):Int)=(↑(l5.length):Int)) <|
  sif ((↑(l5.length):Int)*1≤140737488355328) <|
  sif ((↑(l5.length):Int)≤140737488355328) <|
  sif (Int.toNat (↑(l5.length):Int)=List.length (List.replicate (Int.toNat (↑(l5.length):Int)) (D.int .u8 0))) <|
  zca (α:=(List D×List D×Int×Int×PUnit)×PUnit) (fun again6 ((l7,(l8,(i9,(i10,_)))),_)=>
   brK (decide (i10 < i9))
    (sif (0≤i10) <|
    getK l8 (i10.toNat) fun d11=>
    asSl d11 fun t12 l13=>
    zam (zbS [.int .i64 i10]) fun r14=>
    asI .u8 r14 fun i15=>
    sif (l7.length=l7.length) <|
    zca (α:=(List D×Int×List D×Int×Int×(Tag×List D)×Int×Int×PUnit)×PUnit) (fun again16 ((l17,(i18,(l19,(i20,(i21,((t22,l23),(i24,(i25,_)))))))),_)=>
     brK (decide (i25 < i24))
      (sif (0≤i25) <|
      getK l23 (i25.toNat) fun d26=>
      asI .u8 d26 fun i27=>
      sif (0≤i25) <|
      sif (i25.toNat < l17.length) <|
      getK l17 (0+i25.toNat) fun d28=>
      asI .u8 d28 fun i29=>
      zam (zaS [.int .u8 i27,.int .u8 i18]) fun r30=>
      asI .u8 r30 fun i31=>
      letN (bits BinOp.xor IntKind.u8 i29 i31) fun n32=>
      sif (0≤i25) <|
      sif (i25.toNat < l17.length) <|
      getK l17 (0+i25.toNat) fun d33=>
      sif (D.isAgg d33=false) <|
      letN (IntKind.i64.wrap (i25+1)) fun n34=>
      sif (l17.length=List.length (List.set l17 (0+i25.toNat) (D.int .u8 n32))) <|
      again16 (((List.set l17 (0+i25.toNat) (.int .u8 n32),i18,l19,i20,i21,(t22,l23),i24,n34,unit),unit)))
      (letN (IntKind.i64.wrap (i21+1)) fun n35=>
      sif (l17.length=l17.length) <|
      again6 (((l17,l19,i20,n35,unit),unit))))
     (((l7,i15,l8,i9,i10,(t12,l13),(↑(l13.length):Int),(0:Int),unit),unit)))
    (sif (l7.length=l7.length) <|
    sif (List.all l7 D.free=true) <|
    some (.sl .own l7)))
   (((List.replicate (Int.toNat (↑(l5.length):Int)) (.int .u8 0),a0,(↑(a0.length):Int),(0:Int),unit),unit)))
theorem zto (zaJ zbS zaS:Zp) (tga0:Tag) (a0:List D):denP Tryz.prog (zav [(ID.wattleref01_alike,(.pure [0] zaJ)),(ID.wattleref01_Pow,(.pure [0] zbS)),(ID.wattleref01_Mul,(.pure [0] zaS))]) zjv [1] ID.wattleref01_Q [.sl tga0 a0]=zhX zaJ zbS zaS (D.lentL a0):=by kernel_rfl
theorem zpt (tga0:Tag) (a0:List D):zb9 [.sl tga0 a0]=zhX zaJ zbS zaS (D.lentL a0):=zto zaJ zbS zaS tga0 a0
def zg9:Ann:={ loops:=[(1,.dead::.val (.cell (.int .i64))::.val (.cell .lent)::.box true [(.int .i64),(.int .i64),(.int .i64)]::dd 4 (.own 1::dd 18 [.val (.cell .lent),.val (.cell (.int .i64)),.val (.cell (.int .i64))]))] }
noncomputable def zbI:Zp:=denP Tryz.prog (zav [(ID.wattleref01_fine,(.pure [0] zak)),(ID.wattleref01_Width,(.pure [0] zaa)),(ID.wattleref01_Disk,(.pure [0] zaM)),(ID.wattleref01_Parity,(.pure [0,0] zaD)),(ID.wattleref01_P,(.pure [1] zb8)),(ID.wattleref01_Q,(.pure [1] zb9))]) zg9 [1,0] ID.wattleref01_Fill
theorem zk9:za3 Tryz.prog ID.wattleref01_Fill (.pure [1,0] zbI):=zan (zax [zdA,zbM,zgL,zfE,zpq,zps]) zbs ⟨Tryz.f43,by kernel_rfl,by kernel_rfl,by kernel_rfl⟩
noncomputable def zl1:Fact Tryz.prog:=⟨ID.wattleref01_Fill,(.pure [1,0] zbI),zk9⟩
noncomputable def zfG (zak zaa zaM zaD zb8 zb9:Zp) (a0_0 a0_1 a0_2 a1:Int) (a2:List D):Option D:=
 zam (zak [.agg [.int .i64 a0_0,.int .i64 a0_1,.int .i64 a0_2],.int .i64 a1]) fun r1=>
 asB r1 fun b2=>
 brK (!b2)
  (some (.tup [.sl .own [],.bool false]))
  (zam (zaa [.agg [.int .i64 a0_0,.int .i64 a0_1,.int .i64 a0_2]]) fun r3=>
  asI .i64 r3 fun i4=>
  brK ((↑(a2.length):Int) != i4)
   (some (.tup [.sl .own [],.bool false]))
   (sif (0≤a0_1) <|
   sif (a0_1=a0_1) <|
   sif (a0_1*24≤140737488355328) <|
   sif (a0_1≤140737488355328) <|
   sif (a0_1.toNat=List.length (List.replicate (a0_1.toNat) (D.sl .nil []))) <|
   zca (α:=(Int×List D×(Int×Int×Int×PUnit)×List D×List D×Int×Int×PUnit)×PUnit) (fun again5 ((i6,(l7,((i8,(i9,(i10,_))),(l11,(l12,(i13,(i14,_))))))),_)=>
    brK (decide (i14 < i13))
     (sif (0≤i14) <|
     getK l12 (i14.toNat) fun d15=>
     asSl d15 fun t16 l17=>
     brK ((↑(l17.length):Int) != 32)
      (some (.tup [.sl .own [],.bool false]))
      (zam (zaM [.agg [.int .i64 i8,.int .i64 i9,.int .i64 i10],.int .i64 i6,.int .i64 i14]) fun r18=>
      asI .i64 r18 fun i19=>
      sif (l17.length≤4294967296) <|
      sif (zeK (1:Nat) l17=true) <|
      sif (0≤i19) <|
      sif (i19.toNat < l11.length) <|
      sif (0+l17.length≤l17.length) <|
      getK l11 (0+i19.toNat) fun d20=>
      sif (0+l17.length≤l17.length) <|
      sif (D.isAgg d20=false) <|
      letN (IntKind.i64.wrap (i14+1)) fun n21=>
      sif (l11.length=List.length (List.set l11 (0+i19.toNat) (D.sl .fresh (cut 0 l17.length l17)))) <|
      again5 (((i6,l7,(i8,i9,i10,unit),List.set l11 (0+i19.toNat) (.sl .fresh (cut 0 l17.length l17)),l12,i13,n21,unit),unit))))
     (zam (zaD [.agg [.int .i64 i8,.int .i64 i9,.int .i64 i10],.int .i64 i6]) fun r22=>
     zdi r22 fun ts23=>
     zaw ([Lf.any,Lf.any]) ts23 fun c24=>
     asI .i64 c24.1 fun i25=>
     asI .i64 c24.2.1 fun i26=>
     zam (zb8 [.sl .lent l7]) fun r27=>
     za7 r27 fun l28=>
     sif (0≤i25) <|
     sif (i25.toNat < l11.length) <|
     sif (0+l28.length≤l28.length) <|
     getK l11 (0+i25.toNat) fun d29=>
     sif (0+l28.length≤l28.length) <|
     sif (D.isAgg d29=false) <|
     brK (decide (i26≥0))
      (zam (zb9 [.sl .lent l7]) fun r30=>
      za7 r30 fun l31=>
      sif (0≤i26) <|
      sif (i26.toNat < l11.length) <|
      sif (0+l31.length≤l31.length) <|
      getK (List.set l11 (0+i25.toNat) (.sl .fresh (cut 0 l28.length l28))) (0+i26.toNat) fun d32=>
      sif (0+l31.length≤l31.length) <|
      sif (D.isAgg d32=false) <|
      sif (l11.length=List.length (List.set (List.set l11 (0+i25.toNat) (D.sl .fresh (cut 0 l28.length l28))) (0+i26.toNat) (D.sl .fresh (cut 0 l31.length l31)))) <|
      sif (List.all (List.set (List.set l11 (0+i25.toNat) (D.sl .fresh (cut 0 l28.length l28))) (0+i26.toNat) (D.sl .fresh (cut 0 l31.length l31))) D.free=true) <|
      some (.tup [.sl .own (List.set (List.set l11 (0+i25.toNat) (.sl .fresh (cut 0 l28.length l28))) (0+i26.toNat) (.sl .fresh (cut 0 l31.length l31))),.bool true]))
      (sif (l11.length=List.length (List.set l11 (0+i25.toNat) (.sl .fresh (cut 0 l28.length l28)))) <|
      sif (List.all (List.set l11 (0+i25.toNat) (D.sl .fresh (cut 0 l28.length l28))) D.free=true) <|
      some (.tup [.sl .own (List.set l11 (0+i25.toNat) (.sl .fresh (cut 0 l28.length l28))),.bool true]))))
    (((a1,a2,(a0_0,a0_1,a0_2,unit),List.replicate (a0_1.toNat) (.sl .nil []),a2,(↑(a2.length):Int),(0:Int),unit),unit))))
theorem zpu (zak zaa zaM zaD zb8 zb9:Zp) (tga2:Tag) (a0_0 a0_1 a0_2 a1:Int) (a2:List D):denP Tryz.prog (zav [(ID.wattleref01_fine,(.pure [0] zak)),(ID.wattleref01_Width,(.pure [0] zaa)),(ID.wattleref01_Disk,(.pure [0] zaM)),(ID.wattleref01_Parity,(.pure [0,0] zaD)),(ID.wattleref01_P,(.pure [1] zb8)),(ID.wattleref01_Q,(.pure [1] zb9))]) zg9 [1,0] ID.wattleref01_Fill [.agg [.int .i64 a0_0,.int .i64 a0_1,.int .i64 a0_2],.int .i64 a1,.sl tga2 a2]=zfG zak zaa zaM zaD zb8 zb9 a0_0 a0_1 a0_2 a1 (D.lentL a2):=by kernel_rfl
theorem zl2 (tga2:Tag) (a0_0 a0_1 a0_2 a1:Int) (a2:List D):zbI [.agg [.int .i64 a0_0,.int .i64 a0_1,.int .i64 a0_2],.int .i64 a1,.sl tga2 a2]=zfG zak zaa zaM zaD zb8 zb9 a0_0 a0_1 a0_2 a1 (D.lentL a2):=zpu zak zaa zaM zaD zb8 zb9 tga2 a0_0 a0_1 a0_2 a1 a2
def ziB:Ann:={ loops:=[],ks:=[(2496,false)] }
noncomputable def zar:Zs:=denS Tryz.prog (zav []) ziB [0] ID.bench_Bench_is
theorem znh:za3 Tryz.prog ID.bench_Bench_is (.st [] [0] [(2496,false)] zar):=zbg (zax []) zbs ⟨Tryz.f74,by kernel_rfl,by kernel_rfl,by kernel_rfl⟩
noncomputable def zfd:Fact Tryz.prog:=⟨ID.bench_Bench_is,(.st [] [0] [(2496,false)] zar),znh⟩
noncomputable def zgX (a0:Nat) (a1:Int) (T0:Tb):Option Ans:=
 brK (decide (a1≥0))
  (getK T0 a0 fun d1=>
  getK d1 ((3:Nat)) fun d2=>
  za7 d2 fun l3=>
  getK T0 a0 fun d4=>
  getK d4 ((3:Nat)) fun d5=>
  za7 d5 fun l6=>
  sif (0+l3.length≤l6.length) <|
  some (Ans.mk (.bool (decide (a1 < (↑(l3.length):Int)))) [] []))
  (some (Ans.mk (.bool false) [] []))
theorem zrC (a0:Nat) (a1:Int) (T0:Tb):denS Tryz.prog (zav []) ziB [0] ID.bench_Bench_is [.h 2496 a0 0,.int .i64 a1] [T0]=zgX a0 a1 T0:=by kernel_rfl
theorem zok (a0:Nat) (a1:Int) (T0:Tb):zar [.h 2496 a0 0,.int .i64 a1] [T0]=zgX a0 a1 T0:=zrC a0 a1 T0
def zjw:Ann:={ loops:=[],ks:=[(8225,false)] }
noncomputable def za9:Zs:=denS Tryz.prog (zav []) zjw [0] ID.disk_Disk_may
theorem zol:za3 Tryz.prog ID.disk_Disk_may (.st [] [0] [(8225,false)] za9):=zbg (zax []) zbs ⟨Tryz.f98,by kernel_rfl,by kernel_rfl,by kernel_rfl⟩
noncomputable def ziC:Fact Tryz.prog:=⟨ID.disk_Disk_may,(.st [] [0] [(8225,false)] za9),zol⟩
noncomputable def zhY (a0:Nat) (a1:Int) (T0:Tb):Option Ans:=
 getK T0 a0 fun d1=>
 getK d1 ((1665:Nat)) fun d2=>
 asB d2 fun b3=>
 brK b3
  (some (Ans.mk (.int .i64 5) [] []))
  (brK (decide (a1 < 0))
   (some (Ans.mk (.int .i64 4) [] []))
   (brK (decide (a1≥52))
    (some (Ans.mk (.int .i64 4) [] []))
    (some (Ans.mk (.int .i64 0) [] []))))
theorem ztp (a0:Nat) (a1:Int) (T0:Tb):denS Tryz.prog (zav []) zjw [0] ID.disk_Disk_may [.h 8225 a0 0,.int .i64 a1] [T0]=zhY a0 a1 T0:=by kernel_rfl
theorem zpv (a0:Nat) (a1:Int) (T0:Tb):za9 [.h 8225 a0 0,.int .i64 a1] [T0]=zhY a0 a1 T0:=ztp a0 a1 T0
def zjx:Ann:={ loops:=[],ks:=[(8225,false)] }
noncomputable def zba:Zs:=denS Tryz.prog (zav [(ID.disk_Disk_may,(.st [] [0] [(8225,false)] za9))]) zjx [0,0] ID.disk_Disk_put
theorem zom:za3 Tryz.prog ID.disk_Disk_put (.st [] [0,0] [(8225,false)] zba):=zbg (zax [ziC]) zbs ⟨Tryz.f129,by kernel_rfl,by kernel_rfl,by kernel_rfl⟩
noncomputable def ziD:Fact Tryz.prog:=⟨ID.disk_Disk_put,(.st [] [0,0] [(8225,false)] zba),zom⟩
noncomputable def zhZ (za9:Zs) (a0:Nat) (a1:Int) (a2:List D) (T0:Tb):Option Ans:=
 zam (za9 [.h 8225 a0 0,.int .i64 a1] [T0]) fun r1=>
 nilK r1.outs <|
 nilK r1.tbs <|
 asI .i64 r1.r fun i2=>
 brK (i2 != 0)
  (some (Ans.mk (.tup [.agg [.int .i64 0,.int .u8 0,.int .u8 0,.int .u8 0,.int .u8 0,.int .u8 0,.int .u8 0,.int .u8 0,.int .u8 0,.int .u8 0,.int .u8 0,.int .u8 0,.int .u8 0,.int .u8 0,.int .u8 0,.int .u8 0,.int .u8 0,.int .u8 0,.int .u8 0,.int .u8 0,.int .u8 0,.int .u8 0,.int .u8 0,.int .u8 0,.int .u8 0,.int .u8 0,.int .u8 0,.int .u8 0,.int .u8 0,.int .u8 0,.int .u8 0,.int .u8 0,.int .u8 0],.int .i64 i2]) [] []))
  (brK ((↑(a2.length):Int) != 32)
   (some (Ans.mk (.tup [.agg [.int .i64 0,.int .u8 0,.int .u8 0,.int .u8 0,.int .u8 0,.int .u8 0,.int .u8 0,.int .u8 0,.int .u8 0,.int .u8 0,.int .u8 0,.int .u8 0,.int .u8 0,.int .u8 0,.int .u8 0,.int .u8 0,.int .u8 0,.int .u8 0,.int .u8 0,.int .u8 0,.int .u8 0,.int .u8 0,.int .u8 0,.int .u8 0,.int .u8 0,.int .u8 0,.int .u8 0,.int .u8 0,.int .u8 0,.int .u8 0,.int .u8 0,.int .u8 0,.int .u8 0],.int .i64 1]) [] []))
   (sif (cells a2=true) <|
   sif (a2.length=(32:Nat)) <|
   sif (33≤List.length ([D.int .i64 a1]++(a2++[]))) <|
   zaw ([Lf.int .i64,Lf.arr (32)]) (List.take (33:Nat) (List.drop (0:Nat) ([.int .i64 a1]++(a2++[])))) fun c3=>
   sif (List.length ([D.int .i64 c3.1]++(c3.2.1++[]))=(33:Nat)) <|
   sif (33≤List.length ([D.int .i64 c3.1]++(c3.2.1++[]))) <|
   zaw ([Lf.int .i64,Lf.arr (32)]) (List.take (33:Nat) (List.drop (0:Nat) ([.int .i64 c3.1]++(c3.2.1++[])))) fun c4=>
   sif (D.free (D.agg ([D.int .i64 c4.1]++(c4.2.1++[])))=true) <|
   some (Ans.mk (.tup [.agg ([.int .i64 c4.1]++(c4.2.1++[])),.int .i64 0]) [] [])))
theorem ztq (za9:Zs) (tga2:Tag) (a0:Nat) (a1:Int) (a2:List D) (T0:Tb):denS Tryz.prog (zav [(ID.disk_Disk_may,(.st [] [0] [(8225,false)] za9))]) zjx [0,0] ID.disk_Disk_put [.h 8225 a0 0,.int .i64 a1,.sl tga2 a2] [T0]=zhZ za9 a0 a1 (D.lentL a2) T0:=by kernel_rfl
theorem zpw (tga2:Tag) (a0:Nat) (a1:Int) (a2:List D) (T0:Tb):zba [.h 8225 a0 0,.int .i64 a1,.sl tga2 a2] [T0]=zhZ za9 a0 a1 (D.lentL a2) T0:=ztq za9 tga2 a0 a1 a2 T0
def zcZ:Ann:={ loops:=[] }
noncomputable def zag:Zp:=denE Tryz.prog (zav []) zcZ [33] ID.slices_Clone_disk_write_disk_write
theorem zed:za3 Tryz.prog ID.slices_Clone_disk_write_disk_write (.pure [33] zag):=zvf (zax []) zbs ⟨Tryz.f97,by kernel_rfl,by kernel_rfl,by kernel_rfl⟩
noncomputable def zcU:Fact Tryz.prog:=⟨ID.slices_Clone_disk_write_disk_write,(.pure [33] zag),zed⟩
noncomputable def zcx (a0:D) (b0:List D):Option D:=
 sif (List.length (a0::b0)≤4294967296) <|
 sif (zeK (33:Nat) (a0::b0)=true) <|
 sif (List.length (a0::b0)=List.length (a0::b0)) <|
 sif (List.all (a0::b0) D.free=true) <|
 some (.sl .own (a0::b0))
theorem ze1 (tga0:Tag) (a0:D) (b0:List D):denE Tryz.prog (zav []) zcZ [33] ID.slices_Clone_disk_write_disk_write [.sl tga0 (a0::b0)]=zcx (D.lent a0) (D.lentL b0):=by kernel_rfl
theorem zeo (tga0:Tag) (a0:D) (b0:List D):zag [.sl tga0 (a0::b0)]=zcx (D.lent a0) (D.lentL b0):=ze1 tga0 a0 b0
theorem zee (tg:Tag):zag [.sl tg []]=some (.sl .own []):=(zri (some (.sl .own [])))
def zf5:Ann:={ loops:=[],hints:=[(1,.at1 (.int .i64))] }
noncomputable def zaI:Zp:=denP Tryz.prog (zav []) zf5 [0] ID.disk_Disk_Damage_1
theorem zjy:za3 Tryz.prog ID.disk_Disk_Damage_1 (.pure [0] zaI):=zan (zax []) zbs ⟨Tryz.f131,by kernel_rfl,by kernel_rfl,by kernel_rfl⟩
noncomputable def zfH:Fact Tryz.prog:=⟨ID.disk_Disk_Damage_1,(.pure [0] zaI),zjy⟩
noncomputable def zeQ (a0:List D) (c0:Int):Option D:=
 zaw ([Lf.int .i64,Lf.arr (32)]) a0 fun c1=>
 some (.bool (c1.1 == c0))
theorem zni (a0:List D) (c0:Int):denP Tryz.prog (zav []) zf5 [0] ID.disk_Disk_Damage_1 [.agg a0,.at_ (.int .i64 c0)]=zeQ (D.lentL a0) c0:=by kernel_rfl
theorem zkn (a0:List D) (c0:Int):zaI [.agg a0,.at_ (.int .i64 c0)]=zeQ (D.lentL a0) c0:=zni a0 c0
def zcJ:Ann:={ loops:=[(0,.val (.cell .lent)::.val (.fn1 (131:FuncId) (.int .i64))::dd 5 [.val (.cell (.int .i64)),.val (.cell (.int .i64))])] }
noncomputable def zas:Zp:=denP Tryz.prog (zav [(ID.disk_Disk_Damage_1,(.pure [0] zaI))]) zcJ [0] ID.slices_IndexFunc_disk_write_disk_write
theorem zdS:za3 Tryz.prog ID.slices_IndexFunc_disk_write_disk_write (.pure [0] zas):=zan (zax [zfH]) zbs ⟨Tryz.f152,by kernel_rfl,by kernel_rfl,by kernel_rfl⟩
noncomputable def zdZ:Fact Tryz.prog:=⟨ID.slices_IndexFunc_disk_write_disk_write,(.pure [0] zas),zdS⟩
noncomputable def zb0 (zaI:Zp) (a0:List D) (c0:Int):Option D:=
 zca (α:=(List D×Int×Int×Int×PUnit)×PUnit) (fun again1 ((l2,(i3,(i4,(i5,_)))),_)=>
  brK (decide (i5 < i4))
   (sif (0≤i5) <|
   getK l2 (i5.toNat) fun d6=>
   asAgg d6 fun cs7=>
   zaw ([Lf.int .i64,Lf.arr (32)]) cs7 fun c8=>
   sif (D.width (D.agg ([D.int .i64 c8.1]++(c8.2.1++[])))=(33:Nat)) <|
   zaw ([Lf.int .i64,Lf.arr (32)]) ([.int .i64 c8.1]++(c8.2.1++[])) fun c9=>
   sif (D.width (D.agg ([D.int .i64 c9.1]++(c9.2.1++[])))=(33:Nat)) <|
   zam (zaI [.agg ([.int .i64 c9.1]++(c9.2.1++[])),D.at_ (.int .i64 i3)]) fun r10=>
   asB r10 fun b11=>
   brK b11
    (some (.int .i64 i5))
    (letN (IntKind.i64.wrap (i5+1)) fun n12=>
    again1 (((l2,i3,i4,n12,unit),unit))))
   (some (.int .i64 (-1))))
  (((a0,c0,(↑(a0.length):Int),(0:Int),unit),unit))
theorem zdB (zaI:Zp) (tga0:Tag) (a0:List D) (c0:Int):denP Tryz.prog (zav [(ID.disk_Disk_Damage_1,(.pure [0] zaI))]) zcJ [0] ID.slices_IndexFunc_disk_write_disk_write [.sl tga0 a0,.fn 131 [] [.at_ (.int .i64 c0)]]=zb0 zaI (D.lentL a0) c0:=by kernel_rfl
theorem zdk (tga0:Tag) (a0:List D) (c0:Int):zas [.sl tga0 a0,.fn 131 [] [.at_ (.int .i64 c0)]]=zb0 zaI (D.lentL a0) c0:=zdB zaI tga0 a0 c0
def zcG:Ann:={ loops:=[(1,.own 33::.val (.fn1 (131:FuncId) (.int .i64))::dd 3 [.val (.cell (.int .i64)),.val (.cell (.int .i64))])],pms:=[(.own,33)] }
noncomputable def zap:Zs:=denS Tryz.prog (zav [(ID.slices_IndexFunc_disk_write_disk_write,(.pure [0] zas)),(ID.disk_Disk_Damage_1,(.pure [0] zaI))]) zcG [33] ID.slices_DeleteFunc_disk_write_disk_write
theorem zdO:za3 Tryz.prog ID.slices_DeleteFunc_disk_write_disk_write (.st [(.own,33)] [33] [] zap):=zbg (zax [zdZ,zfH]) zbs ⟨Tryz.f130,by kernel_rfl,by kernel_rfl,by kernel_rfl⟩
noncomputable def zdT:Fact Tryz.prog:=⟨ID.slices_DeleteFunc_disk_write_disk_write,(.st [(.own,33)] [33] [] zap),zdO⟩
noncomputable def zbQ (zas zaI:Zp) (a0:List D) (c0:Int):Option Ans:=
 sif (0+a0.length≤a0.length) <|
 zam (zas [.sl .lent (cut 0 a0.length a0),.fn (131:FuncId) [] [D.at_ (.int .i64 c0)]]) fun r1=>
 asI .i64 r1 fun i2=>
 brK (i2 == (-1:Int))
  (sif (a0.length=a0.length) <|
  sif (List.all a0 D.free=true) <|
  some (Ans.mk (.sl .own a0) [] []))
  (letN (IntKind.i64.wrap (i2+1)) fun n3=>
  none)
theorem zdt (zas zaI:Zp) (a0:List D) (c0:Int):denS Tryz.prog (zav [(ID.slices_IndexFunc_disk_write_disk_write,(.pure [0] zas)),(ID.disk_Disk_Damage_1,(.pure [0] zaI))]) zcG [33] ID.slices_DeleteFunc_disk_write_disk_write [.sl .own a0,.fn 131 [] [.at_ (.int .i64 c0)]] []=zbQ zas zaI a0 c0:=by kernel_rfl
theorem zdf (a0:List D) (c0:Int):zap [.sl .own a0,.fn 131 [] [.at_ (.int .i64 c0)]] []=zbQ zas zaI a0 c0:=zdt zas zaI a0 c0
def zha:Ann:={ loops:=[],ks:=[(8225,true)] }
noncomputable def zbJ:Zs:=denS Tryz.prog (zav [(ID.disk_Disk_put,(.st [] [0,0] [(8225,false)] zba)),(ID.slices_Clone_disk_write_disk_write,(.pure [33] zag)),(ID.slices_DeleteFunc_disk_write_disk_write,(.st [(.own,33)] [33] [] zap))]) zha [0] ID.disk_Disk_Damage
theorem zla:za3 Tryz.prog ID.disk_Disk_Damage (.st [] [0] [(8225,true)] zbJ):=zbg (zax [ziD,zcU,zdT]) zbs ⟨Tryz.f96,by kernel_rfl,by kernel_rfl,by kernel_rfl⟩
noncomputable def zl3:Fact Tryz.prog:=⟨ID.disk_Disk_Damage,(.st [] [0] [(8225,true)] zbJ),zla⟩
noncomputable def zfI (zba:Zs) (zag:Zp) (zap:Zs) (a0:Nat) (a1:Int) (a2:List D) (T0:Tb):Option Ans:=
 zam (zba [.h 8225 a0 0,.int .i64 a1,.sl .lent a2] [T0]) fun r1=>
 nilK r1.outs <|
 nilK r1.tbs <|
 zdi r1.r fun ts2=>
 zaw ([Lf.any,Lf.any]) ts2 fun c3=>
 asAgg c3.1 fun cs4=>
 zaw ([Lf.int .i64,Lf.arr (32)]) cs4 fun c5=>
 asI .i64 c3.2.1 fun i6=>
 sif (List.length ([D.int .i64 c5.1]++(c5.2.1++[]))=(33:Nat)) <|
 brK (i6 != 0)
  (some (Ans.mk (.int .i64 i6) [] [T0]))
  (sif (33≤List.length ([.int .i64 c5.1]++(c5.2.1++[]))) <|
  sif (List.length (List.take (32:Nat) (List.drop (1:Nat) ([D.int .i64 c5.1]++(c5.2.1++[]))))=(32:Nat)) <|
  sif (0≤a1) <|
  sif (a1.toNat < 52) <|
  getK T0 a0 fun d7=>
  sif (0+a1.toNat*32+32≤d7.length) <|
  sif (List.length (List.take (32:Nat) (List.drop (1:Nat) ([D.int .i64 c5.1]++(c5.2.1++[]))))=(32:Nat)) <|
  sif (zfZ (List.take (32:Nat) (List.drop (1:Nat) ([D.int .i64 c5.1]++(c5.2.1++[]))))=true) <|
  sif (zfZ (List.take (32:Nat) (List.drop (0+a1.toNat*32) d7))=true) <|
  letT (zaU T0 a0 (0+a1.toNat*32) (List.take (32:Nat) (List.drop (1:Nat) ([.int .i64 c5.1]++(c5.2.1++[]))))) fun U8=>
  getK U8 a0 fun d9=>
  getK d9 ((1664:Nat)) fun d10=>
  za7 d10 fun l11=>
  getK U8 a0 fun d12=>
  getK d12 ((1664:Nat)) fun d13=>
  za7 d13 fun l14=>
  sif (0+l11.length≤l14.length) <|
  zam (zag [.sl .lent (cut 0 l11.length l14)]) fun r15=>
  za7 r15 fun l16=>
  sif (l16.length=l16.length) <|
  sif (zdK l16=true) <|
  zam (zap [.sl .own l16,.fn (131:Nat) [] [D.at_ (.int .i64 a1)]] []) fun r17=>
  nilK r17.outs <|
  nilK r17.tbs <|
  za7 r17.r fun l18=>
  sif (0+l18.length≤l18.length) <|
  getK U8 a0 fun d19=>
  sif (1665≤d19.length) <|
  sif (l18.length=l18.length) <|
  sif (zdK l18=true) <|
  sif (zgD (33:Nat) l18=true) <|
  letT (zaU U8 a0 (1664:Nat) [.sl .own l18]) fun U20=>
  some (Ans.mk (.int .i64 0) [] [U20]))
theorem zpx (zba:Zs) (zag:Zp) (zap:Zs) (tga2:Tag) (a0:Nat) (a1:Int) (a2:List D) (T0:Tb):denS Tryz.prog (zav [(ID.disk_Disk_put,(.st [] [0,0] [(8225,false)] zba)),(ID.slices_Clone_disk_write_disk_write,(.pure [33] zag)),(ID.slices_DeleteFunc_disk_write_disk_write,(.st [(.own,33)] [33] [] zap))]) zha [0] ID.disk_Disk_Damage [.h 8225 a0 0,.int .i64 a1,.sl tga2 a2] [T0]=zfI zba zag zap a0 a1 (D.lentL a2) T0:=by kernel_rfl
theorem zl4 (tga2:Tag) (a0:Nat) (a1:Int) (a2:List D) (T0:Tb):zbJ [.h 8225 a0 0,.int .i64 a1,.sl tga2 a2] [T0]=zfI zba zag zap a0 a1 (D.lentL a2) T0:=zpx zba zag zap tga2 a0 a1 a2 T0
def zf6:Ann:={ loops:=[],ks:=[(2496,false),(8225,true)] }
noncomputable def zbq:Zs:=denS Tryz.prog (zav [(ID.bench_Bench_is,(.st [] [0] [(2496,false)] zar)),(ID.disk_Disk_Damage,(.st [] [0] [(8225,true)] zbJ))]) zf6 [0] ID.bench_Bench_Damage
theorem zjz:za3 Tryz.prog ID.bench_Bench_Damage (.st [] [0] [(2496,false),(8225,true)] zbq):=zbg (zax [zfd,zl3]) zbs ⟨Tryz.f50,by kernel_rfl,by kernel_rfl,by kernel_rfl⟩
noncomputable def zko:Fact Tryz.prog:=⟨ID.bench_Bench_Damage,(.st [] [0] [(2496,false),(8225,true)] zbq),zjz⟩
noncomputable def zeR (zar zbJ:Zs) (a0:Nat) (a1 a2:Int) (a3:List D) (T0 T1:Tb):Option Ans:=
 zam (zar [.h 2496 a0 0,.int .i64 a1] [T0]) fun r1=>
 nilK r1.outs <|
 nilK r1.tbs <|
 asB r1.r fun b2=>
 brK (!b2)
  (some (Ans.mk (.int .i64 1) [] [T1]))
  (getK T0 a0 fun d3=>
  getK d3 ((3:Nat)) fun d4=>
  za7 d4 fun l5=>
  getK T0 a0 fun d6=>
  getK d6 ((3:Nat)) fun d7=>
  za7 d7 fun l8=>
  sif (0≤a1) <|
  sif (a1.toNat < l5.length) <|
  getK T0 a0 fun d9=>
  getK d9 ((3:Nat)) fun d10=>
  za7 d10 fun l11=>
  getK l11 (0+a1.toNat) fun d12=>
  sif (D.isAgg d12=false) <|
  sif (D.width d12=(1:Nat)) <|
  sif (D.cell d12=true) <|
  zam (zbJ [d12,.int .i64 a2,.sl .lent a3] [T1]) fun r13=>
  nilK r13.outs <|
  zdd r13.tbs fun c14 q15=>
  nilK q15 <|
  asI .i64 r13.r fun i16=>
  some (Ans.mk (.int .i64 i16) [] [c14]))
theorem znj (zar zbJ:Zs) (tga3:Tag) (a0:Nat) (a1 a2:Int) (a3:List D) (T0 T1:Tb):denS Tryz.prog (zav [(ID.bench_Bench_is,(.st [] [0] [(2496,false)] zar)),(ID.disk_Disk_Damage,(.st [] [0] [(8225,true)] zbJ))]) zf6 [0] ID.bench_Bench_Damage [.h 2496 a0 0,.int .i64 a1,.int .i64 a2,.sl tga3 a3] [T0,T1]=zeR zar zbJ a0 a1 a2 (D.lentL a3) T0 T1:=by kernel_rfl
theorem zkp (tga3:Tag) (a0:Nat) (a1 a2:Int) (a3:List D) (T0 T1:Tb):zbq [.h 2496 a0 0,.int .i64 a1,.int .i64 a2,.sl tga3 a3] [T0,T1]=zeR zar zbJ a0 a1 a2 (D.lentL a3) T0 T1:=znj zar zbJ tga3 a0 a1 a2 a3 T0 T1
def zf7:Ann:={ loops:=[(1,.dead::.val (.cell (.int .i64))::.val (.cell .lent)::.box true [(.int .i64),(.int .i64),(.int .i64)]::dd 3 [.ptr 2496,.dead,.val (.cell (.int .i64))]),(3,.dead::.val (.cell (.int .i64))::.val (.cell .lent)::.box true [(.int .i64),(.int .i64),(.int .i64)]::dd 3 [.ptr 2496,.dead,.val (.cell (.int .i64)),.own 1,.val (.cell .bool),.val (.cell (.int .i64))])],ks:=[(2496,true),(8225,true)] }
noncomputable def zbh:Zs:=denS Tryz.prog (zav [(ID.bench_New,(.st [] [0,0] [(2496,true),(8225,true)] zbL)),(ID.wattleref01_Width,(.pure [0] zaa)),(ID.wattleplay_Sectors,(.pure [1] zaF)),(ID.wattleref01_Fill,(.pure [1,0] zbI)),(ID.bench_Bench_Damage,(.st [] [0] [(2496,false),(8225,true)] zbq))]) zf7 [0] ID.wattlelaw14_Filled
theorem zjA:za3 Tryz.prog ID.wattlelaw14_Filled (.st [] [0] [(2496,true),(8225,true)] zbh):=zbg (zax [znH,zbM,zfC,zl1,zko]) zbs ⟨Tryz.f10,by kernel_rfl,by kernel_rfl,by kernel_rfl⟩
noncomputable def zkq:Fact Tryz.prog:=⟨ID.wattlelaw14_Filled,(.st [] [0] [(2496,true),(8225,true)] zbh),zjA⟩
noncomputable def zeS (zbL:Zs) (zaa zaF zbI:Zp) (zbq:Zs) (a0_0 a0_1 a0_2 a1:Int) (a2:List D) (T0 T1:Tb):Option Ans:=
 zam (zbL [.int .i64 a1] [T0,T1]) fun r1=>
 nilK r1.outs <|
 zdd r1.tbs fun c2 q3=>
 zdd q3 fun c4 q5=>
 nilK q5 <|
 zdi r1.r fun ts6=>
 zaw ([Lf.any,Lf.any]) ts6 fun c7=>
 sif (zhO c7.1=true) <|
 asI .i64 c7.2.1 fun i8=>
 brK (i8 != 0)
  (some (Ans.mk D.nilp [] [c2,c4]))
  (zp9 c7.1 fun b9=>
  brK b9
   (some (Ans.mk D.nilp [] [c2,c4]))
   (zca (α:=(Int×List D×(Int×Int×Int×PUnit)×D×Int×PUnit)×List (List D)×List (List D)×PUnit) (fun again10 ((i11,(l12,((i13,(i14,(i15,_))),(x16,(i17,_))))),(U18,(U19,_)))=>
    brK (decide (i17 < 16))
     (letN (min i17 (↑(l12.length):Int)) fun n20=>
     sif (0≤n20) <|
     sif (n20≤(↑(l12.length):Int)) <|
     sif ((↑(l12.length):Int)≤(↑(l12.length):Int)) <|
     sif ((↑(l12.length):Int)=(↑(l12.length):Int)) <|
     sif (zsN (1:Nat) l12=true) <|
     zam (zaa [.agg [.int .i64 i13,.int .i64 i14,.int .i64 i15]]) fun r21=>
     asI .i64 r21 fun i22=>
     zam (zaF [.sl (zeb Tag.lent false (decide ((↑(l12.length):Int)=(↑(l12.length):Int)))) (cutI n20 (↑(l12.length):Int) l12),.int .i64 i22]) fun r23=>
     za7 r23 fun l24=>
     sif (0+l24.length≤l24.length) <|
     zam (zbI [.agg [.int .i64 i13,.int .i64 i14,.int .i64 i15],.int .i64 i17,.sl .lent (cut 0 l24.length l24)]) fun r25=>
     zdi r25 fun ts26=>
     zaw ([Lf.any,Lf.any]) ts26 fun c27=>
     za7 c27.1 fun l28=>
     asB c27.2.1 fun b29=>
     sif (l28.length=l28.length) <|
     zca (α:=(Int×List D×(Int×Int×Int×PUnit)×D×Int×List D×Bool×Int×PUnit)×List (List D)×List (List D)×PUnit) (fun again30 ((i31,(l32,((i33,(i34,(i35,_))),(x36,(i37,(l38,(b39,(i40,_)))))))),(U41,(U42,_)))=>
      brK b39
       (sif (0+l38.length≤l38.length) <|
       brK (decide (i40 < (↑(l38.length):Int)))
        (brK (decide (i40 < i31))
         (letN (IntKind.i64.wrap (36+i37)) fun n43=>
         sif (0≤i40) <|
         sif (i40.toNat < l38.length) <|
         getK l38 (0+i40.toNat) fun d44=>
         asSl d44 fun t45 l46=>
         zam (zbq [x36,.int .i64 i40,.int .i64 n43,.sl t45 l46] [U41,U42]) fun r47=>
         nilK r47.outs <|
         zdd r47.tbs fun c48 q49=>
         nilK q49 <|
         asI .i64 r47.r fun i50=>
         letN (IntKind.i64.wrap (i40+1)) fun n51=>
         sif (l38.length=l38.length) <|
         again30 (((i31,l32,(i33,i34,i35,unit),x36,i37,l38,b39,n51,unit),U41,c48,unit)))
         (letN (IntKind.i64.wrap (i37+1)) fun n52=>
         again10 (((i31,l32,(i33,i34,i35,unit),x36,n52,unit),U41,U42,unit))))
        (letN (IntKind.i64.wrap (i37+1)) fun n53=>
        again10 (((i31,l32,(i33,i34,i35,unit),x36,n53,unit),U41,U42,unit))))
       (letN (IntKind.i64.wrap (i37+1)) fun n54=>
       again10 (((i31,l32,(i33,i34,i35,unit),x36,n54,unit),U41,U42,unit))))
      (((i11,l12,(i13,i14,i15,unit),x16,i17,l28,b29,(0:Int),unit),U18,U19,unit)))
     (sif (D.free x16=true) <|
     some (Ans.mk x16 [] [U18,U19])))
    (((a1,a2,(a0_0,a0_1,a0_2,unit),c7.1,(0:Int),unit),c2,c4,unit))))
theorem znk (zbL:Zs) (zaa zaF zbI:Zp) (zbq:Zs) (tga2:Tag) (a0_0 a0_1 a0_2 a1:Int) (a2:List D) (T0 T1:Tb):denS Tryz.prog (zav [(ID.bench_New,(.st [] [0,0] [(2496,true),(8225,true)] zbL)),(ID.wattleref01_Width,(.pure [0] zaa)),(ID.wattleplay_Sectors,(.pure [1] zaF)),(ID.wattleref01_Fill,(.pure [1,0] zbI)),(ID.bench_Bench_Damage,(.st [] [0] [(2496,false),(8225,true)] zbq))]) zf7 [0] ID.wattlelaw14_Filled [.agg [.int .i64 a0_0,.int .i64 a0_1,.int .i64 a0_2],.int .i64 a1,.sl tga2 a2] [T0,T1]=zeS zbL zaa zaF zbI zbq a0_0 a0_1 a0_2 a1 (D.lentL a2) T0 T1:=by kernel_rfl
theorem zkr (tga2:Tag) (a0_0 a0_1 a0_2 a1:Int) (a2:List D) (T0 T1:Tb):zbh [.agg [.int .i64 a0_0,.int .i64 a0_1,.int .i64 a0_2],.int .i64 a1,.sl tga2 a2] [T0,T1]=zeS zbL zaa zaF zbI zbq a0_0 a0_1 a0_2 a1 (D.lentL a2) T0 T1:=znk zbL zaa zaF zbI zbq tga2 a0_0 a0_1 a0_2 a1 a2 T0 T1
def zh0:Ann:={ loops:=[(0,.val (.cell (.int .i64))::.val (.cell (.int .i64))::dd 3 (.own 1::dd 4 [.val (.cell (.int .i64)),.val (.cell (.int .i64))]))] }
noncomputable def zbT:Zp:=denP Tryz.prog (zav [(ID.wattlekeep_Within,(.pure [0] zad))]) zh0 [1] ID.wattleplay_Live
theorem zl5:za3 Tryz.prog ID.wattleplay_Live (.pure [1] zbT):=zan (zax [zdn]) zbs ⟨Tryz.f11,by kernel_rfl,by kernel_rfl,by kernel_rfl⟩
noncomputable def znl:Fact Tryz.prog:=⟨ID.wattleplay_Live,(.pure [1] zbT),zl5⟩
noncomputable def zgk (zad:Zp) (a0 a1:Int):Option D:=
 sif (0≤a1) <|
 sif (a1=a1) <|
 sif (a1*1≤140737488355328) <|
 sif (a1≤140737488355328) <|
 sif (0+a1.toNat≤List.length (List.replicate (a1.toNat) (D.bool false))) <|
 sif (a1.toNat=List.length (List.replicate (a1.toNat) (D.bool false))) <|
 zca (α:=(Int×Int×List D×Int×Int×PUnit)×PUnit) (fun again1 ((i2,(i3,(l4,(i5,(i6,_))))),_)=>
  brK (decide (i6 < i5))
   (sif (0≤i6) <|
   sif (i6.toNat < l4.length) <|
   getK l4 (0+i6.toNat) fun d7=>
   sif (D.isAgg d7=false) <|
   letN (IntKind.i64.wrap (i6+1)) fun n8=>
   sif (l4.length=List.length (List.set l4 (0+i6.toNat) (D.bool true))) <|
   again1 (((i2,i3,List.set l4 (0+i6.toNat) (.bool true),i5,n8,unit),unit)))
   (brK (decide (i3 > 0))
    (zam (zad [.int .i64 i2,.int .i64 3]) fun r9=>
    asI .i64 r9 fun i10=>
    brK (decide (i10 > 0))
     (letN (IntKind.i64.wrap (Int.tdiv i2 (3:Int))) fun n11=>
     zam (zad [.int .i64 n11,.int .i64 i3]) fun r12=>
     asI .i64 r12 fun i13=>
     sif (0≤i13) <|
     sif (i13.toNat < l4.length) <|
     getK l4 (0+i13.toNat) fun d14=>
     sif (D.isAgg d14=false) <|
     brK (decide (i3 > 0))
      (zam (zad [.int .i64 i2,.int .i64 9]) fun r15=>
      asI .i64 r15 fun i16=>
      brK (i16 == 8)
       (letN (IntKind.i64.wrap (Int.tdiv i2 (27:Int))) fun n17=>
       zam (zad [.int .i64 n17,.int .i64 i3]) fun r18=>
       asI .i64 r18 fun i19=>
       sif (0≤i19) <|
       sif (i19.toNat < l4.length) <|
       getK (List.set l4 (0+i13.toNat) (.bool false)) (0+i19.toNat) fun d20=>
       sif (D.isAgg d20=false) <|
       sif (l4.length=List.length (List.set (List.set l4 (0+i13.toNat) (D.bool false)) (0+i19.toNat) (D.bool false))) <|
       sif (List.all (List.set (List.set l4 (0+i13.toNat) (D.bool false)) (0+i19.toNat) (D.bool false)) D.free=true) <|
       some (.sl .own (List.set (List.set l4 (0+i13.toNat) (.bool false)) (0+i19.toNat) (.bool false))))
       (sif (l4.length=List.length (List.set l4 (0+i13.toNat) (.bool false))) <|
       sif (List.all (List.set l4 (0+i13.toNat) (D.bool false)) D.free=true) <|
       some (.sl .own (List.set l4 (0+i13.toNat) (.bool false)))))
      (sif (l4.length=List.length (List.set l4 (0+i13.toNat) (.bool false))) <|
      sif (List.all (List.set l4 (0+i13.toNat) (D.bool false)) D.free=true) <|
      some (.sl .own (List.set l4 (0+i13.toNat) (.bool false)))))
     (brK (decide (i3 > 0))
      (zam (zad [.int .i64 i2,.int .i64 9]) fun r21=>
      asI .i64 r21 fun i22=>
      brK (i22 == 8)
       (letN (IntKind.i64.wrap (Int.tdiv i2 (27:Int))) fun n23=>
       zam (zad [.int .i64 n23,.int .i64 i3]) fun r24=>
       asI .i64 r24 fun i25=>
       sif (0≤i25) <|
       sif (i25.toNat < l4.length) <|
       getK l4 (0+i25.toNat) fun d26=>
       sif (D.isAgg d26=false) <|
       sif (l4.length=List.length (List.set l4 (0+i25.toNat) (D.bool false))) <|
       sif (List.all (List.set l4 (0+i25.toNat) (D.bool false)) D.free=true) <|
       some (.sl .own (List.set l4 (0+i25.toNat) (.bool false))))
       (sif (l4.length=l4.length) <|
       sif (List.all l4 D.free=true) <|
       some (.sl .own l4)))
      (sif (l4.length=l4.length) <|
      sif (List.all l4 D.free=true) <|
      some (.sl .own l4))))
    (brK (decide (i3 > 0))
     (zam (zad [.int .i64 i2,.int .i64 9]) fun r27=>
     asI .i64 r27 fun i28=>
     brK (i28 == 8)
      (letN (IntKind.i64.wrap (Int.tdiv i2 (27:Int))) fun n29=>
      zam (zad [.int .i64 n29,.int .i64 i3]) fun r30=>
      asI .i64 r30 fun i31=>
      sif (0≤i31) <|
      sif (i31.toNat < l4.length) <|
      getK l4 (0+i31.toNat) fun d32=>
      sif (D.isAgg d32=false) <|
      sif (l4.length=List.length (List.set l4 (0+i31.toNat) (D.bool false))) <|
      sif (List.all (List.set l4 (0+i31.toNat) (D.bool false)) D.free=true) <|
      some (.sl .own (List.set l4 (0+i31.toNat) (.bool false))))
      (sif (l4.length=l4.length) <|
      sif (List.all l4 D.free=true) <|
      some (.sl .own l4)))
     (sif (l4.length=l4.length) <|
     sif (List.all l4 D.free=true) <|
     some (.sl .own l4)))))
  (((a0,a1,List.replicate (a1.toNat) (.bool false),(↑(a1.toNat):Int),(0:Int),unit),unit))
theorem zqt (zad:Zp) (a0 a1:Int):denP Tryz.prog (zav [(ID.wattlekeep_Within,(.pure [0] zad))]) zh0 [1] ID.wattleplay_Live [.int .i64 a0,.int .i64 a1]=zgk zad a0 a1:=by kernel_rfl
theorem znm (a0 a1:Int):zbT [.int .i64 a0,.int .i64 a1]=zgk zad a0 a1:=zqt zad a0 a1
def zgN:Ann:={ loops:=[(0,.val (.cell (.int .i64))::.val (.cell (.int .i64))::dd 3 [.val (.cell (.int .i64))])] }
noncomputable def zbz:Zp:=denP Tryz.prog (zav []) zgN [0] ID.wattleref01_least
theorem zks:za3 Tryz.prog ID.wattleref01_least (.pure [0] zbz):=zan (zax []) zbs ⟨Tryz.f123,by kernel_rfl,by kernel_rfl,by kernel_rfl⟩
noncomputable def zlb:Fact Tryz.prog:=⟨ID.wattleref01_least,(.pure [0] zbz),zks⟩
noncomputable def zfe (a0 a1:Int):Option D:=
 zca (α:=(Int×Int×Int×PUnit)×PUnit) (fun again1 ((i2,(i3,(i4,_))),_)=>
  sif (i3≠0) <|
  letN (Int.tmod i4 i3) fun n5=>
  brK (n5 != 0)
   (letN (IntKind.i64.wrap (i4+i2)) fun n6=>
   again1 (((i2,i3,n6,unit),unit)))
   (some (.int .i64 i4)))
  (((a0,a1,a0,unit),unit))
theorem zon (a0 a1:Int):denP Tryz.prog (zav []) zgN [0] ID.wattleref01_least [.int .i64 a0,.int .i64 a1]=zfe a0 a1:=by kernel_rfl
theorem zlc (a0 a1:Int):zbz [.int .i64 a0,.int .i64 a1]=zfe a0 a1:=zon a0 a1
def zhb:Ann:={ loops:=[] }
noncomputable def zaR:Zp:=denP Tryz.prog (zav [(ID.wattleref01_Can,(.pure [0] zay)),(ID.wattleref01_least,(.pure [0] zbz))]) zhb [0] ID.wattleref01_Rows
theorem zld:za3 Tryz.prog ID.wattleref01_Rows (.pure [0] zaR):=zan (zax [zeN,zlb]) zbs ⟨Tryz.f84,by kernel_rfl,by kernel_rfl,by kernel_rfl⟩
noncomputable def zgO:Fact Tryz.prog:=⟨ID.wattleref01_Rows,(.pure [0] zaR),zld⟩
noncomputable def zfJ (zay zbz:Zp) (a0_0 a0_1 a0_2 a1_0 a1_1 a1_2:Int):Option D:=
 zam (zay [.agg [.int .i64 a0_0,.int .i64 a0_1,.int .i64 a0_2],.agg [.int .i64 a1_0,.int .i64 a1_1,.int .i64 a1_2]]) fun r1=>
 asB r1 fun b2=>
 brK (!b2)
  (some (.int .i64 0))
  (zam (zbz [.int .i64 a0_2,.int .i64 a1_2]) fun r3=>
  asI .i64 r3 fun i4=>
  some (.int .i64 i4))
theorem zpy (zay zbz:Zp) (a0_0 a0_1 a0_2 a1_0 a1_1 a1_2:Int):denP Tryz.prog (zav [(ID.wattleref01_Can,(.pure [0] zay)),(ID.wattleref01_least,(.pure [0] zbz))]) zhb [0] ID.wattleref01_Rows [.agg [.int .i64 a0_0,.int .i64 a0_1,.int .i64 a0_2],.agg [.int .i64 a1_0,.int .i64 a1_1,.int .i64 a1_2]]=zfJ zay zbz a0_0 a0_1 a0_2 a1_0 a1_1 a1_2:=by kernel_rfl
theorem zl6 (a0_0 a0_1 a0_2 a1_0 a1_1 a1_2:Int):zaR [.agg [.int .i64 a0_0,.int .i64 a0_1,.int .i64 a0_2],.agg [.int .i64 a1_0,.int .i64 a1_1,.int .i64 a1_2]]=zfJ zay zbz a0_0 a0_1 a0_2 a1_0 a1_1 a1_2:=zpy zay zbz a0_0 a0_1 a0_2 a1_0 a1_1 a1_2
def zfK:Ann:={ loops:=[] }
noncomputable def zaz:Zp:=denP Tryz.prog (zav [(ID.wattleref01_Can,(.pure [0] zay)),(ID.wattleref01_Rows,(.pure [0] zaR))]) zfK [0] ID.wattleref01_Windows
theorem ziO:za3 Tryz.prog ID.wattleref01_Windows (.pure [0] zaz):=zan (zax [zeN,zgO]) zbs ⟨Tryz.f39,by kernel_rfl,by kernel_rfl,by kernel_rfl⟩
noncomputable def zfo:Fact Tryz.prog:=⟨ID.wattleref01_Windows,(.pure [0] zaz),ziO⟩
noncomputable def zep (zay zaR:Zp) (a0_0 a0_1 a0_2 a1_0 a1_1 a1_2:Int):Option D:=
 zam (zay [.agg [.int .i64 a0_0,.int .i64 a0_1,.int .i64 a0_2],.agg [.int .i64 a1_0,.int .i64 a1_1,.int .i64 a1_2]]) fun r1=>
 asB r1 fun b2=>
 brK (!b2)
  (some (.int .i64 0))
  (zam (zaR [.agg [.int .i64 a0_0,.int .i64 a0_1,.int .i64 a0_2],.agg [.int .i64 a1_0,.int .i64 a1_1,.int .i64 a1_2]]) fun r3=>
  asI .i64 r3 fun i4=>
  sif (i4≠0) <|
  letN (IntKind.i64.wrap (Int.tdiv (16:Int) i4)) fun n5=>
  some (.int .i64 n5))
theorem zl7 (zay zaR:Zp) (a0_0 a0_1 a0_2 a1_0 a1_1 a1_2:Int):denP Tryz.prog (zav [(ID.wattleref01_Can,(.pure [0] zay)),(ID.wattleref01_Rows,(.pure [0] zaR))]) zfK [0] ID.wattleref01_Windows [.agg [.int .i64 a0_0,.int .i64 a0_1,.int .i64 a0_2],.agg [.int .i64 a1_0,.int .i64 a1_1,.int .i64 a1_2]]=zep zay zaR a0_0 a0_1 a0_2 a1_0 a1_1 a1_2:=by kernel_rfl
theorem zjB (a0_0 a0_1 a0_2 a1_0 a1_1 a1_2:Int):zaz [.agg [.int .i64 a0_0,.int .i64 a0_1,.int .i64 a0_2],.agg [.int .i64 a1_0,.int .i64 a1_1,.int .i64 a1_2]]=zep zay zaR a0_0 a0_1 a0_2 a1_0 a1_1 a1_2:=zl7 zay zaR a0_0 a0_1 a0_2 a1_0 a1_1 a1_2
def zfp:Ann:={ loops:=[(0,.val (.cell .lent)::.val (.cell (.int .i64))::dd 5 [.val (.cell (.int .i64)),.val (.cell (.int .i64))])] }
noncomputable def zbl:Zp:=denP Tryz.prog (zav []) zfp [0] ID.slices_Index_int_int
theorem zij:za3 Tryz.prog ID.slices_Index_int_int (.pure [0] zbl):=zan (zax []) zbs ⟨Tryz.f66,by kernel_rfl,by kernel_rfl,by kernel_rfl⟩
noncomputable def ziP:Fact Tryz.prog:=⟨ID.slices_Index_int_int,(.pure [0] zbl),zij⟩
noncomputable def zd8 (a0:List D) (a1:Int):Option D:=
 zca (α:=(List D×Int×Int×Int×PUnit)×PUnit) (fun again1 ((l2,(i3,(i4,(i5,_)))),_)=>
  brK (decide (i5 < i4))
   (sif (0≤i5) <|
   getK l2 (i5.toNat) fun d6=>
   asI .i64 d6 fun i7=>
   brK (i3 == i7)
    (some (.int .i64 i5))
    (letN (IntKind.i64.wrap (i5+1)) fun n8=>
    again1 (((l2,i3,i4,n8,unit),unit))))
   (some (.int .i64 (-1))))
  (((a0,a1,(↑(a0.length):Int),(0:Int),unit),unit))
theorem zle (tga0:Tag) (a0:List D) (a1:Int):denP Tryz.prog (zav []) zfp [0] ID.slices_Index_int_int [.sl tga0 a0,.int .i64 a1]=zd8 (D.lentL a0) a1:=by kernel_rfl
theorem ziQ (tga0:Tag) (a0:List D) (a1:Int):zbl [.sl tga0 a0,.int .i64 a1]=zd8 (D.lentL a0) a1:=zle tga0 a0 a1
def zeq:Ann:={ loops:=[] }
noncomputable def zaX:Zp:=denP Tryz.prog (zav [(ID.slices_Index_int_int,(.pure [0] zbl))]) zeq [0] ID.slices_Contains_int_int
theorem zgY:za3 Tryz.prog ID.slices_Contains_int_int (.pure [0] zaX):=zan (zax [ziP]) zbs ⟨Tryz.f122,by kernel_rfl,by kernel_rfl,by kernel_rfl⟩
noncomputable def zhr:Fact Tryz.prog:=⟨ID.slices_Contains_int_int,(.pure [0] zaX),zgY⟩
noncomputable def zdF (zbl:Zp) (a0:List D) (a1:Int):Option D:=
 zam (zbl [.sl .lent a0,.int .i64 a1]) fun r1=>
 asI .i64 r1 fun i2=>
 some (.bool (decide (i2≥0)))
theorem ziR (zbl:Zp) (tga0:Tag) (a0:List D) (a1:Int):denP Tryz.prog (zav [(ID.slices_Index_int_int,(.pure [0] zbl))]) zeq [0] ID.slices_Contains_int_int [.sl tga0 a0,.int .i64 a1]=zdF zbl (D.lentL a0) a1:=by kernel_rfl
theorem zhs (tga0:Tag) (a0:List D) (a1:Int):zaX [.sl tga0 a0,.int .i64 a1]=zdF zbl (D.lentL a0) a1:=ziR zbl tga0 a0 a1
def znI:Ann:={ loops:=[] }
noncomputable def zao:Zp:=denP Tryz.prog (zav [(ID.slices_Contains_int_int,(.pure [0] zaX))]) znI [0] ID.geom_Check
theorem zrD:za3 Tryz.prog ID.geom_Check (.pure [0] zao):=zan (zax [zhr]) zbs ⟨Tryz.f82,by kernel_rfl,by kernel_rfl,by kernel_rfl⟩
noncomputable def zdP:Fact Tryz.prog:=⟨ID.geom_Check,(.pure [0] zao),zrD⟩
noncomputable def zl8 (zaX:Zp) (a0_0 a0_1 a0_2:Int):Option D:=
 asI .i64 (zBC a0_0 (.int .i64 0) (setD (6:Int) (.int .i64 4) (setD (5:Int) (.int .i64 3) []))) fun i1=>
 brK (i1 == 0)
  (some (.int .i64 1))
  (brK (decide (a0_1 < i1))
   (some (.int .i64 1))
   (brK (decide (a0_1 > 8))
    (some (.int .i64 1))
    (zam (zaX [.sl .full [.int .i64 1,.int .i64 2,.int .i64 4],.int .i64 a0_2]) fun r2=>
    asB r2 fun b3=>
    brK (!b3)
     (some (.int .i64 1))
     (some (.int .i64 0)))))
theorem zym (zaX:Zp) (a0_0 a0_1 a0_2:Int):denP Tryz.prog (zav [(ID.slices_Contains_int_int,(.pure [0] zaX))]) znI [0] ID.geom_Check [.agg [.int .i64 a0_0,.int .i64 a0_1,.int .i64 a0_2]]=zl8 zaX a0_0 a0_1 a0_2:=by kernel_rfl
theorem ztr (a0_0 a0_1 a0_2:Int):zao [.agg [.int .i64 a0_0,.int .i64 a0_1,.int .i64 a0_2]]=zl8 zaX a0_0 a0_1 a0_2:=zym zaX a0_0 a0_1 a0_2
def zl9:Ann:={ loops:=[] }
noncomputable def zbx:Zp:=denP Tryz.prog (zav [(ID.geom_Check,(.pure [0] zao))]) zl9 [0] ID.geom_Budget
theorem zqu:za3 Tryz.prog ID.geom_Budget (.pure [0] zbx):=zan (zax [zdP]) zbs ⟨Tryz.f132,by kernel_rfl,by kernel_rfl,by kernel_rfl⟩
noncomputable def zkO:Fact Tryz.prog:=⟨ID.geom_Budget,(.pure [0] zbx),zqu⟩
noncomputable def zkt (zao:Zp) (a0_0 a0_1 a0_2:Int):Option D:=
 zam (zao [.agg [.int .i64 a0_0,.int .i64 a0_1,.int .i64 a0_2]]) fun r1=>
 asI .i64 r1 fun i2=>
 brK (i2 != 0)
  (some (.int .i64 0))
  (letN (IntKind.i64.wrap (a0_0 - 4)) fun n3=>
  some (.int .i64 n3))
theorem zwD (zao:Zp) (a0_0 a0_1 a0_2:Int):denP Tryz.prog (zav [(ID.geom_Check,(.pure [0] zao))]) zl9 [0] ID.geom_Budget [.agg [.int .i64 a0_0,.int .i64 a0_1,.int .i64 a0_2]]=zkt zao a0_0 a0_1 a0_2:=by kernel_rfl
theorem zrE (a0_0 a0_1 a0_2:Int):zbx [.agg [.int .i64 a0_0,.int .i64 a0_1,.int .i64 a0_2]]=zkt zao a0_0 a0_1 a0_2:=zwD zao a0_0 a0_1 a0_2
def znJ:Ann:={ loops:=[] }
noncomputable def zaf:Zp:=denP Tryz.prog (zav [(ID.geom_Check,(.pure [0] zao)),(ID.geom_Budget,(.pure [0] zbx))]) znJ [0] ID.geom_Width
theorem zrF:za3 Tryz.prog ID.geom_Width (.pure [0] zaf):=zan (zax [zdP,zkO]) zbs ⟨Tryz.f101,by kernel_rfl,by kernel_rfl,by kernel_rfl⟩
noncomputable def zcH:Fact Tryz.prog:=⟨ID.geom_Width,(.pure [0] zaf),zrF⟩
noncomputable def zma (zao zbx:Zp) (a0_0 a0_1 a0_2:Int):Option D:=
 zam (zao [.agg [.int .i64 a0_0,.int .i64 a0_1,.int .i64 a0_2]]) fun r1=>
 asI .i64 r1 fun i2=>
 brK (i2 != 0)
  (some (.int .i64 0))
  (zam (zbx [.agg [.int .i64 a0_0,.int .i64 a0_1,.int .i64 a0_2]]) fun r3=>
  asI .i64 r3 fun i4=>
  letN (IntKind.i64.wrap (a0_1 - i4)) fun n5=>
  some (.int .i64 n5))
theorem zyn (zao zbx:Zp) (a0_0 a0_1 a0_2:Int):denP Tryz.prog (zav [(ID.geom_Check,(.pure [0] zao)),(ID.geom_Budget,(.pure [0] zbx))]) znJ [0] ID.geom_Width [.agg [.int .i64 a0_0,.int .i64 a0_1,.int .i64 a0_2]]=zma zao zbx a0_0 a0_1 a0_2:=by kernel_rfl
theorem zts (a0_0 a0_1 a0_2:Int):zaf [.agg [.int .i64 a0_0,.int .i64 a0_1,.int .i64 a0_2]]=zma zao zbx a0_0 a0_1 a0_2:=zyn zao zbx a0_0 a0_1 a0_2
def zrm:Ann:={ loops:=[] }
noncomputable def zdv:Zp:=denP Tryz.prog (zav [(ID.geom_Check,(.pure [0] zao)),(ID.geom_Width,(.pure [0] zaf))]) zrm [0] ID.geom_Can
theorem zug:za3 Tryz.prog ID.geom_Can (.pure [0] zdv):=zan (zax [zdP,zcH]) zbs ⟨Tryz.f125,by kernel_rfl,by kernel_rfl,by kernel_rfl⟩
noncomputable def zwE:Fact Tryz.prog:=⟨ID.geom_Can,(.pure [0] zdv),zug⟩
noncomputable def zqv (zao zaf:Zp) (a0_0 a0_1 a0_2 a1_0 a1_1 a1_2:Int):Option D:=
 zam (zao [.agg [.int .i64 a0_0,.int .i64 a0_1,.int .i64 a0_2]]) fun r1=>
 asI .i64 r1 fun i2=>
 brK (i2 == 0)
  (zam (zao [.agg [.int .i64 a1_0,.int .i64 a1_1,.int .i64 a1_2]]) fun r3=>
  asI .i64 r3 fun i4=>
  brK (i4 == 0)
   (brK (!(a0_0 == a1_0 && (a0_1 == a1_1 && (a0_2 == a1_2 && true))))
    (brK (decide (a1_1≥a0_1))
     (brK (decide (a1_0≥a0_0))
      (zam (zaf [.agg [.int .i64 a1_0,.int .i64 a1_1,.int .i64 a1_2]]) fun r5=>
      asI .i64 r5 fun i6=>
      zam (zaf [.agg [.int .i64 a0_0,.int .i64 a0_1,.int .i64 a0_2]]) fun r7=>
      asI .i64 r7 fun i8=>
      some (.bool (decide (i6≥i8))))
      (some (.bool false)))
     (some (.bool false)))
    (some (.bool false)))
   (some (.bool false)))
  (some (.bool false))
theorem zBR (zao zaf:Zp) (a0_0 a0_1 a0_2 a1_0 a1_1 a1_2:Int):denP Tryz.prog (zav [(ID.geom_Check,(.pure [0] zao)),(ID.geom_Width,(.pure [0] zaf))]) zrm [0] ID.geom_Can [.agg [.int .i64 a0_0,.int .i64 a0_1,.int .i64 a0_2],.agg [.int .i64 a1_0,.int .i64 a1_1,.int .i64 a1_2]]=zqv zao zaf a0_0 a0_1 a0_2 a1_0 a1_1 a1_2:=by kernel_rfl
theorem zwF (a0_0 a0_1 a0_2 a1_0 a1_1 a1_2:Int):zdv [.agg [.int .i64 a0_0,.int .i64 a0_1,.int .i64 a0_2],.agg [.int .i64 a1_0,.int .i64 a1_1,.int .i64 a1_2]]=zqv zao zaf a0_0 a0_1 a0_2 a1_0 a1_1 a1_2:=zBR zao zaf a0_0 a0_1 a0_2 a1_0 a1_1 a1_2
def zpz:Ann:={ loops:=[] }
noncomputable def zbe:Zp:=denP Tryz.prog (zav [(ID.geom_Can,(.pure [0] zdv))]) zpz [0] ID.plan_Rows
theorem ztt:za3 Tryz.prog ID.plan_Rows (.pure [0] zbe):=zan (zax [zwE]) zbs ⟨Tryz.f88,by kernel_rfl,by kernel_rfl,by kernel_rfl⟩
noncomputable def ziS:Fact Tryz.prog:=⟨ID.plan_Rows,(.pure [0] zbe),ztt⟩
noncomputable def zoo (zdv:Zp) (a0_0 a0_1 a0_2 a1_0 a1_1 a1_2:Int):Option D:=
 zam (zdv [.agg [.int .i64 a0_0,.int .i64 a0_1,.int .i64 a0_2],.agg [.int .i64 a1_0,.int .i64 a1_1,.int .i64 a1_2]]) fun r1=>
 asB r1 fun b2=>
 brK (!b2)
  (some (.int .i64 0))
  (letN (max a0_2 a1_2) fun n3=>
  some (.int .i64 n3))
theorem zzH (zdv:Zp) (a0_0 a0_1 a0_2 a1_0 a1_1 a1_2:Int):denP Tryz.prog (zav [(ID.geom_Can,(.pure [0] zdv))]) zpz [0] ID.plan_Rows [.agg [.int .i64 a0_0,.int .i64 a0_1,.int .i64 a0_2],.agg [.int .i64 a1_0,.int .i64 a1_1,.int .i64 a1_2]]=zoo zdv a0_0 a0_1 a0_2 a1_0 a1_1 a1_2:=by kernel_rfl
theorem zuh (a0_0 a0_1 a0_2 a1_0 a1_1 a1_2:Int):zbe [.agg [.int .i64 a0_0,.int .i64 a0_1,.int .i64 a0_2],.agg [.int .i64 a1_0,.int .i64 a1_1,.int .i64 a1_2]]=zoo zdv a0_0 a0_1 a0_2 a1_0 a1_1 a1_2:=zzH zdv a0_0 a0_1 a0_2 a1_0 a1_1 a1_2
def zkP:Ann:={ loops:=[] }
noncomputable def zbd:Zp:=denP Tryz.prog (zav [(ID.plan_Rows,(.pure [0] zbe))]) zkP [0] ID.plan_Windows
theorem zpA:za3 Tryz.prog ID.plan_Windows (.pure [0] zbd):=zan (zax [ziS]) zbs ⟨Tryz.f124,by kernel_rfl,by kernel_rfl,by kernel_rfl⟩
noncomputable def zjC:Fact Tryz.prog:=⟨ID.plan_Windows,(.pure [0] zbd),zpA⟩
noncomputable def ziT (zbe:Zp) (a0_0 a0_1 a0_2 a1_0 a1_1 a1_2:Int):Option D:=
 zam (zbe [.agg [.int .i64 a0_0,.int .i64 a0_1,.int .i64 a0_2],.agg [.int .i64 a1_0,.int .i64 a1_1,.int .i64 a1_2]]) fun r1=>
 asI .i64 r1 fun i2=>
 brK (i2 == 0)
  (some (.int .i64 0))
  (sif (i2≠0) <|
  letN (IntKind.i64.wrap (Int.tdiv (16:Int) i2)) fun n3=>
  some (.int .i64 n3))
theorem zui (zbe:Zp) (a0_0 a0_1 a0_2 a1_0 a1_1 a1_2:Int):denP Tryz.prog (zav [(ID.plan_Rows,(.pure [0] zbe))]) zkP [0] ID.plan_Windows [.agg [.int .i64 a0_0,.int .i64 a0_1,.int .i64 a0_2],.agg [.int .i64 a1_0,.int .i64 a1_1,.int .i64 a1_2]]=ziT zbe a0_0 a0_1 a0_2 a1_0 a1_1 a1_2:=by kernel_rfl
theorem zqw (a0_0 a0_1 a0_2 a1_0 a1_1 a1_2:Int):zbd [.agg [.int .i64 a0_0,.int .i64 a0_1,.int .i64 a0_2],.agg [.int .i64 a1_0,.int .i64 a1_1,.int .i64 a1_2]]=ziT zbe a0_0 a0_1 a0_2 a1_0 a1_1 a1_2:=zui zbe a0_0 a0_1 a0_2 a1_0 a1_1 a1_2
def znK:Ann:={ loops:=[] }
noncomputable def zbP:Zp:=denP Tryz.prog (zav [(ID.plan_Windows,(.pure [0] zbd))]) znK [0] ID.window_may
theorem zrG:za3 Tryz.prog ID.window_may (.pure [0] zbP):=zan (zax [zjC]) zbs ⟨Tryz.f85,by kernel_rfl,by kernel_rfl,by kernel_rfl⟩
noncomputable def zmb:Fact Tryz.prog:=⟨ID.window_may,(.pure [0] zbP),zrG⟩
noncomputable def zmc (zbd:Zp) (a0_0 a0_1 a0_2 a1_0 a1_1 a1_2 a2:Int):Option D:=
 brK (decide (a2≥0))
  (zam (zbd [.agg [.int .i64 a0_0,.int .i64 a0_1,.int .i64 a0_2],.agg [.int .i64 a1_0,.int .i64 a1_1,.int .i64 a1_2]]) fun r1=>
  asI .i64 r1 fun i2=>
  some (.bool (decide (a2 < i2))))
  (some (.bool false))
theorem zyo (zbd:Zp) (a0_0 a0_1 a0_2 a1_0 a1_1 a1_2 a2:Int):denP Tryz.prog (zav [(ID.plan_Windows,(.pure [0] zbd))]) znK [0] ID.window_may [.agg [.int .i64 a0_0,.int .i64 a0_1,.int .i64 a0_2],.agg [.int .i64 a1_0,.int .i64 a1_1,.int .i64 a1_2],.int .i64 a2]=zmc zbd a0_0 a0_1 a0_2 a1_0 a1_1 a1_2 a2:=by kernel_rfl
theorem ztu (a0_0 a0_1 a0_2 a1_0 a1_1 a1_2 a2:Int):zbP [.agg [.int .i64 a0_0,.int .i64 a0_1,.int .i64 a0_2],.agg [.int .i64 a1_0,.int .i64 a1_1,.int .i64 a1_2],.int .i64 a2]=zmc zbd a0_0 a0_1 a0_2 a1_0 a1_1 a1_2 a2:=zyo zbd a0_0 a0_1 a0_2 a1_0 a1_1 a1_2 a2
def zpB:Ann:={ loops:=[] }
noncomputable def zb2:Zp:=denP Tryz.prog (zav [(ID.plan_Windows,(.pure [0] zbd)),(ID.plan_Rows,(.pure [0] zbe)),(ID.geom_Width,(.pure [0] zaf))]) zpB [0,0] ID.plan_Span
theorem ztv:za3 Tryz.prog ID.plan_Span (.pure [0,0] zb2):=zan (zax [zjC,ziS,zcH]) zbs ⟨Tryz.f86,by kernel_rfl,by kernel_rfl,by kernel_rfl⟩
noncomputable def znL:Fact Tryz.prog:=⟨ID.plan_Span,(.pure [0,0] zb2),ztv⟩
noncomputable def zop (zbd zbe zaf:Zp) (a0_0 a0_1 a0_2 a1_0 a1_1 a1_2 a2:Int):Option D:=
 brK (decide (a2 < 0))
  (some (.tup [.int .i64 0,.int .i64 0]))
  (zam (zbd [.agg [.int .i64 a0_0,.int .i64 a0_1,.int .i64 a0_2],.agg [.int .i64 a1_0,.int .i64 a1_1,.int .i64 a1_2]]) fun r1=>
  asI .i64 r1 fun i2=>
  brK (decide (a2≥i2))
   (some (.tup [.int .i64 0,.int .i64 0]))
   (zam (zbe [.agg [.int .i64 a0_0,.int .i64 a0_1,.int .i64 a0_2],.agg [.int .i64 a1_0,.int .i64 a1_1,.int .i64 a1_2]]) fun r3=>
   asI .i64 r3 fun i4=>
   zam (zaf [.agg [.int .i64 a1_0,.int .i64 a1_1,.int .i64 a1_2]]) fun r5=>
   asI .i64 r5 fun i6=>
   letN (IntKind.i64.wrap (i4*i6)) fun n7=>
   letN (IntKind.i64.wrap (a2*n7)) fun n8=>
   letN (IntKind.i64.wrap (a2+1)) fun n9=>
   letN (IntKind.i64.wrap (n9*n7)) fun n10=>
   some (.tup [.int .i64 n8,.int .i64 n10])))
theorem zzI (zbd zbe zaf:Zp) (a0_0 a0_1 a0_2 a1_0 a1_1 a1_2 a2:Int):denP Tryz.prog (zav [(ID.plan_Windows,(.pure [0] zbd)),(ID.plan_Rows,(.pure [0] zbe)),(ID.geom_Width,(.pure [0] zaf))]) zpB [0,0] ID.plan_Span [.agg [.int .i64 a0_0,.int .i64 a0_1,.int .i64 a0_2],.agg [.int .i64 a1_0,.int .i64 a1_1,.int .i64 a1_2],.int .i64 a2]=zop zbd zbe zaf a0_0 a0_1 a0_2 a1_0 a1_1 a1_2 a2:=by kernel_rfl
theorem zuj (a0_0 a0_1 a0_2 a1_0 a1_1 a1_2 a2:Int):zb2 [.agg [.int .i64 a0_0,.int .i64 a0_1,.int .i64 a0_2],.agg [.int .i64 a1_0,.int .i64 a1_1,.int .i64 a1_2],.int .i64 a2]=zop zbd zbe zaf a0_0 a0_1 a0_2 a1_0 a1_1 a1_2 a2:=zzI zbd zbe zaf a0_0 a0_1 a0_2 a1_0 a1_1 a1_2 a2
def zjD:Ann:={ loops:=[] }
noncomputable def zaZ:Zp:=denP Tryz.prog (zav [(ID.geom_Width,(.pure [0] zaf))]) zjD [0] ID.geom_Capacity
theorem zoq:za3 Tryz.prog ID.geom_Capacity (.pure [0] zaZ):=zan (zax [zcH]) zbs ⟨Tryz.f87,by kernel_rfl,by kernel_rfl,by kernel_rfl⟩
noncomputable def ziE:Fact Tryz.prog:=⟨ID.geom_Capacity,(.pure [0] zaZ),zoq⟩
noncomputable def zh1 (zaf:Zp) (a0_0 a0_1 a0_2:Int):Option D:=
 zam (zaf [.agg [.int .i64 a0_0,.int .i64 a0_1,.int .i64 a0_2]]) fun r1=>
 asI .i64 r1 fun i2=>
 letN (IntKind.i64.wrap (i2*16)) fun n3=>
 some (.int .i64 n3)
theorem ztw (zaf:Zp) (a0_0 a0_1 a0_2:Int):denP Tryz.prog (zav [(ID.geom_Width,(.pure [0] zaf))]) zjD [0] ID.geom_Capacity [.agg [.int .i64 a0_0,.int .i64 a0_1,.int .i64 a0_2]]=zh1 zaf a0_0 a0_1 a0_2:=by kernel_rfl
theorem zpC (a0_0 a0_1 a0_2:Int):zaZ [.agg [.int .i64 a0_0,.int .i64 a0_1,.int .i64 a0_2]]=zh1 zaf a0_0 a0_1 a0_2:=ztw zaf a0_0 a0_1 a0_2
def zrn:Ann:={ loops:=[] }
noncomputable def zbD:Zp:=denP Tryz.prog (zav [(ID.geom_Check,(.pure [0] zao))]) zrn [0] ID.place_in
theorem zuk:za3 Tryz.prog ID.place_in (.pure [0] zbD):=zan (zax [zdP]) zbs ⟨Tryz.f111,by kernel_rfl,by kernel_rfl,by kernel_rfl⟩
noncomputable def zku:Fact Tryz.prog:=⟨ID.place_in,(.pure [0] zbD),zuk⟩
noncomputable def zqx (zao:Zp) (a0_0 a0_1 a0_2 a1:Int):Option D:=
 zam (zao [.agg [.int .i64 a0_0,.int .i64 a0_1,.int .i64 a0_2]]) fun r1=>
 asI .i64 r1 fun i2=>
 brK (i2 == 0)
  (brK (decide (a1≥0))
   (some (.bool (decide (a1 < 16))))
   (some (.bool false)))
  (some (.bool false))
theorem zBS (zao:Zp) (a0_0 a0_1 a0_2 a1:Int):denP Tryz.prog (zav [(ID.geom_Check,(.pure [0] zao))]) zrn [0] ID.place_in [.agg [.int .i64 a0_0,.int .i64 a0_1,.int .i64 a0_2],.int .i64 a1]=zqx zao a0_0 a0_1 a0_2 a1:=by kernel_rfl
theorem zwG (a0_0 a0_1 a0_2 a1:Int):zbD [.agg [.int .i64 a0_0,.int .i64 a0_1,.int .i64 a0_2],.int .i64 a1]=zqx zao a0_0 a0_1 a0_2 a1:=zBS zao a0_0 a0_1 a0_2 a1
def zkQ:Ann:={ loops:=[] }
noncomputable def zaN:Zp:=denP Tryz.prog (zav [(ID.place_in,(.pure [0] zbD))]) zkQ [0,0] ID.place_Parity
theorem zpD:za3 Tryz.prog ID.place_Parity (.pure [0,0] zaN):=zan (zax [zku]) zbs ⟨Tryz.f67,by kernel_rfl,by kernel_rfl,by kernel_rfl⟩
noncomputable def zgl:Fact Tryz.prog:=⟨ID.place_Parity,(.pure [0,0] zaN),zpD⟩
noncomputable def ziU (zbD:Zp) (a0_0 a0_1 a0_2 a1:Int):Option D:=
 zam (zbD [.agg [.int .i64 a0_0,.int .i64 a0_1,.int .i64 a0_2],.int .i64 a1]) fun r1=>
 asB r1 fun b2=>
 brK (!b2)
  (some (.tup [.int .i64 (-1),.int .i64 (-1)]))
  (letN (IntKind.i64.wrap (a0_1 - 1)) fun n3=>
  sif (a0_2≠0) <|
  letN (IntKind.i64.wrap (Int.tdiv a1 a0_2)) fun n4=>
  sif (a0_1≠0) <|
  letN (Int.tmod n4 a0_1) fun n5=>
  letN (IntKind.i64.wrap (n3 - n5)) fun n6=>
  brK (a0_0 == 5)
   (some (.tup [.int .i64 n6,.int .i64 (-1)]))
   (letN (IntKind.i64.wrap (n6+1)) fun n7=>
   sif (a0_1≠0) <|
   letN (Int.tmod n7 a0_1) fun n8=>
   some (.tup [.int .i64 n6,.int .i64 n8])))
theorem zul (zbD:Zp) (a0_0 a0_1 a0_2 a1:Int):denP Tryz.prog (zav [(ID.place_in,(.pure [0] zbD))]) zkQ [0,0] ID.place_Parity [.agg [.int .i64 a0_0,.int .i64 a0_1,.int .i64 a0_2],.int .i64 a1]=ziU zbD a0_0 a0_1 a0_2 a1:=by kernel_rfl
theorem zqy (a0_0 a0_1 a0_2 a1:Int):zaN [.agg [.int .i64 a0_0,.int .i64 a0_1,.int .i64 a0_2],.int .i64 a1]=ziU zbD a0_0 a0_1 a0_2 a1:=zul zbD a0_0 a0_1 a0_2 a1
def znM:Ann:={ loops:=[] }
noncomputable def za1:Zp:=denP Tryz.prog (zav [(ID.place_in,(.pure [0] zbD)),(ID.geom_Width,(.pure [0] zaf)),(ID.place_Parity,(.pure [0,0] zaN)),(ID.geom_Budget,(.pure [0] zbx))]) znM [0] ID.place_Disk
theorem zrH:za3 Tryz.prog ID.place_Disk (.pure [0] za1):=zan (zax [zku,zcH,zgl,zkO]) zbs ⟨Tryz.f102,by kernel_rfl,by kernel_rfl,by kernel_rfl⟩
noncomputable def zh2:Fact Tryz.prog:=⟨ID.place_Disk,(.pure [0] za1),zrH⟩
noncomputable def zmd (zbD zaf zaN zbx:Zp) (a0_0 a0_1 a0_2 a1 a2:Int):Option D:=
 zam (zbD [.agg [.int .i64 a0_0,.int .i64 a0_1,.int .i64 a0_2],.int .i64 a1]) fun r1=>
 asB r1 fun b2=>
 brK (!b2)
  (some (.int .i64 (-1)))
  (brK (decide (a2 < 0))
   (some (.int .i64 (-1)))
   (zam (zaf [.agg [.int .i64 a0_0,.int .i64 a0_1,.int .i64 a0_2]]) fun r3=>
   asI .i64 r3 fun i4=>
   brK (decide (a2≥i4))
    (some (.int .i64 (-1)))
    (zam (zaN [.agg [.int .i64 a0_0,.int .i64 a0_1,.int .i64 a0_2],.int .i64 a1]) fun r5=>
    zdi r5 fun ts6=>
    zaw ([Lf.any,Lf.any]) ts6 fun c7=>
    asI .i64 c7.1 fun i8=>
    asI .i64 c7.2.1 fun i9=>
    zam (zbx [.agg [.int .i64 a0_0,.int .i64 a0_1,.int .i64 a0_2]]) fun r10=>
    asI .i64 r10 fun i11=>
    letN (IntKind.i64.wrap (i8+i11)) fun n12=>
    letN (IntKind.i64.wrap (n12+a2)) fun n13=>
    sif (a0_1≠0) <|
    letN (Int.tmod n13 a0_1) fun n14=>
    some (.int .i64 n14))))
theorem zyp (zbD zaf zaN zbx:Zp) (a0_0 a0_1 a0_2 a1 a2:Int):denP Tryz.prog (zav [(ID.place_in,(.pure [0] zbD)),(ID.geom_Width,(.pure [0] zaf)),(ID.place_Parity,(.pure [0,0] zaN)),(ID.geom_Budget,(.pure [0] zbx))]) znM [0] ID.place_Disk [.agg [.int .i64 a0_0,.int .i64 a0_1,.int .i64 a0_2],.int .i64 a1,.int .i64 a2]=zmd zbD zaf zaN zbx a0_0 a0_1 a0_2 a1 a2:=by kernel_rfl
theorem ztx (a0_0 a0_1 a0_2 a1 a2:Int):za1 [.agg [.int .i64 a0_0,.int .i64 a0_1,.int .i64 a0_2],.int .i64 a1,.int .i64 a2]=zmd zbD zaf zaN zbx a0_0 a0_1 a0_2 a1 a2:=zyp zbD zaf zaN zbx a0_0 a0_1 a0_2 a1 a2
def zro:Ann:={ loops:=[] }
noncomputable def zdg:Zp:=denP Tryz.prog (zav [(ID.geom_Capacity,(.pure [0] zaZ)),(ID.geom_Width,(.pure [0] zaf)),(ID.place_Disk,(.pure [0] za1))]) zro [0,0,0] ID.place_Of
theorem zum:za3 Tryz.prog ID.place_Of (.pure [0,0,0] zdg):=zan (zax [ziE,zcH,zh2]) zbs ⟨Tryz.f63,by kernel_rfl,by kernel_rfl,by kernel_rfl⟩
noncomputable def zwH:Fact Tryz.prog:=⟨ID.place_Of,(.pure [0,0,0] zdg),zum⟩
noncomputable def zqz (zaZ zaf za1:Zp) (a0_0 a0_1 a0_2 a1:Int):Option D:=
 brK (decide (a1 < 0))
  (some (.tup [.int .i64 0,.int .i64 0,.bool false]))
  (zam (zaZ [.agg [.int .i64 a0_0,.int .i64 a0_1,.int .i64 a0_2]]) fun r1=>
  asI .i64 r1 fun i2=>
  brK (decide (a1≥i2))
   (some (.tup [.int .i64 0,.int .i64 0,.bool false]))
   (sif (a0_2≠0) <|
   letN (IntKind.i64.wrap (Int.tdiv a1 a0_2)) fun n3=>
   zam (zaf [.agg [.int .i64 a0_0,.int .i64 a0_1,.int .i64 a0_2]]) fun r4=>
   asI .i64 r4 fun i5=>
   sif (i5≠0) <|
   letN (IntKind.i64.wrap (Int.tdiv n3 i5)) fun n6=>
   letN (IntKind.i64.wrap (n6*a0_2)) fun n7=>
   sif (a0_2≠0) <|
   letN (Int.tmod a1 a0_2) fun n8=>
   letN (IntKind.i64.wrap (n7+n8)) fun n9=>
   zam (zaf [.agg [.int .i64 a0_0,.int .i64 a0_1,.int .i64 a0_2]]) fun r10=>
   asI .i64 r10 fun i11=>
   sif (i11≠0) <|
   letN (Int.tmod n3 i11) fun n12=>
   zam (za1 [.agg [.int .i64 a0_0,.int .i64 a0_1,.int .i64 a0_2],.int .i64 n9,.int .i64 n12]) fun r13=>
   asI .i64 r13 fun i14=>
   some (.tup [.int .i64 i14,.int .i64 n9,.bool true])))
theorem zBT (zaZ zaf za1:Zp) (a0_0 a0_1 a0_2 a1:Int):denP Tryz.prog (zav [(ID.geom_Capacity,(.pure [0] zaZ)),(ID.geom_Width,(.pure [0] zaf)),(ID.place_Disk,(.pure [0] za1))]) zro [0,0,0] ID.place_Of [.agg [.int .i64 a0_0,.int .i64 a0_1,.int .i64 a0_2],.int .i64 a1]=zqz zaZ zaf za1 a0_0 a0_1 a0_2 a1:=by kernel_rfl
theorem zwI (a0_0 a0_1 a0_2 a1:Int):zdg [.agg [.int .i64 a0_0,.int .i64 a0_1,.int .i64 a0_2],.int .i64 a1]=zqz zaZ zaf za1 a0_0 a0_1 a0_2 a1:=zBT zaZ zaf za1 a0_0 a0_1 a0_2 a1
def zh3:Ann:={ loops:=[],ks:=[(2496,false)] }
noncomputable def zaW:Zs:=denS Tryz.prog (zav []) zh3 [0] ID.bench_Bench_Len
theorem zme:za3 Tryz.prog ID.bench_Bench_Len (.st [] [0] [(2496,false)] zaW):=zbg (zax []) zbs ⟨Tryz.f70,by kernel_rfl,by kernel_rfl,by kernel_rfl⟩
noncomputable def zhc:Fact Tryz.prog:=⟨ID.bench_Bench_Len,(.st [] [0] [(2496,false)] zaW),zme⟩
noncomputable def zgm (a0:Nat) (T0:Tb):Option Ans:=
 getK T0 a0 fun d1=>
 getK d1 ((3:Nat)) fun d2=>
 za7 d2 fun l3=>
 getK T0 a0 fun d4=>
 getK d4 ((3:Nat)) fun d5=>
 za7 d5 fun l6=>
 sif (0+l3.length≤l6.length) <|
 some (Ans.mk (.int .i64 (↑(l3.length):Int)) [] [])
theorem zqA (a0:Nat) (T0:Tb):denS Tryz.prog (zav []) zh3 [0] ID.bench_Bench_Len [.h 2496 a0 0] [T0]=zgm a0 T0:=by kernel_rfl
theorem znn (a0:Nat) (T0:Tb):zaW [.h 2496 a0 0] [T0]=zgm a0 T0:=zqA a0 T0
def zhd:Ann:={ loops:=[],ks:=[(8225,false)] }
noncomputable def zbK:Zs:=denS Tryz.prog (zav []) zhd [0] ID.disk_Disk_Failed
theorem zlf:za3 Tryz.prog ID.disk_Disk_Failed (.st [] [0] [(8225,false)] zbK):=zbg (zax []) zbs ⟨Tryz.f144,by kernel_rfl,by kernel_rfl,by kernel_rfl⟩
noncomputable def zmf:Fact Tryz.prog:=⟨ID.disk_Disk_Failed,(.st [] [0] [(8225,false)] zbK),zlf⟩
noncomputable def zfL (a0:Nat) (T0:Tb):Option Ans:=
 getK T0 a0 fun d1=>
 getK d1 ((1665:Nat)) fun d2=>
 asB d2 fun b3=>
 some (Ans.mk (.bool b3) [] [])
theorem zpE (a0:Nat) (T0:Tb):denS Tryz.prog (zav []) zhd [0] ID.disk_Disk_Failed [.h 8225 a0 0] [T0]=zfL a0 T0:=by kernel_rfl
theorem zmg (a0:Nat) (T0:Tb):zbK [.h 8225 a0 0] [T0]=zfL a0 T0:=zpE a0 T0
def zf8:Ann:={ loops:=[],ks:=[(2496,false),(8225,false)] }
noncomputable def zbr:Zs:=denS Tryz.prog (zav [(ID.bench_Bench_is,(.st [] [0] [(2496,false)] zar)),(ID.disk_Disk_Failed,(.st [] [0] [(8225,false)] zbK))]) zf8 [0] ID.bench_Bench_Failed
theorem zjE:za3 Tryz.prog ID.bench_Bench_Failed (.st [] [0] [(2496,false),(8225,false)] zbr):=zbg (zax [zfd,zmf]) zbs ⟨Tryz.f110,by kernel_rfl,by kernel_rfl,by kernel_rfl⟩
noncomputable def zkv:Fact Tryz.prog:=⟨ID.bench_Bench_Failed,(.st [] [0] [(2496,false),(8225,false)] zbr),zjE⟩
noncomputable def zeT (zar zbK:Zs) (a0:Nat) (a1:Int) (T0 T1:Tb):Option Ans:=
 zam (zar [.h 2496 a0 0,.int .i64 a1] [T0]) fun r1=>
 nilK r1.outs <|
 nilK r1.tbs <|
 asB r1.r fun b2=>
 brK b2
  (getK T0 a0 fun d3=>
  getK d3 ((3:Nat)) fun d4=>
  za7 d4 fun l5=>
  getK T0 a0 fun d6=>
  getK d6 ((3:Nat)) fun d7=>
  za7 d7 fun l8=>
  sif (0≤a1) <|
  sif (a1.toNat < l5.length) <|
  getK T0 a0 fun d9=>
  getK d9 ((3:Nat)) fun d10=>
  za7 d10 fun l11=>
  getK l11 (0+a1.toNat) fun d12=>
  sif (D.isAgg d12=false) <|
  sif (D.width d12=(1:Nat)) <|
  sif (D.cell d12=true) <|
  zam (zbK [d12] [T1]) fun r13=>
  nilK r13.outs <|
  nilK r13.tbs <|
  asB r13.r fun b14=>
  some (Ans.mk (.bool b14) [] []))
  (some (Ans.mk (.bool false) [] []))
theorem zno (zar zbK:Zs) (a0:Nat) (a1:Int) (T0 T1:Tb):denS Tryz.prog (zav [(ID.bench_Bench_is,(.st [] [0] [(2496,false)] zar)),(ID.disk_Disk_Failed,(.st [] [0] [(8225,false)] zbK))]) zf8 [0] ID.bench_Bench_Failed [.h 2496 a0 0,.int .i64 a1] [T0,T1]=zeT zar zbK a0 a1 T0 T1:=by kernel_rfl
theorem zkw (a0:Nat) (a1:Int) (T0 T1:Tb):zbr [.h 2496 a0 0,.int .i64 a1] [T0,T1]=zeT zar zbK a0 a1 T0 T1:=zno zar zbK a0 a1 T0 T1
def zpF:Ann:={ loops:=[],ks:=[(2496,false),(8225,false)] }
noncomputable def zaV:Zs:=denS Tryz.prog (zav [(ID.bench_Bench_Len,(.st [] [0] [(2496,false)] zaW)),(ID.bench_Bench_Failed,(.st [] [0] [(2496,false),(8225,false)] zbr))]) zpF [0] ID.stripe_up
theorem zty:za3 Tryz.prog ID.stripe_up (.st [] [0] [(2496,false),(8225,false)] zaV):=zbg (zax [zhc,zkv]) zbs ⟨Tryz.f64,by kernel_rfl,by kernel_rfl,by kernel_rfl⟩
noncomputable def zgy:Fact Tryz.prog:=⟨ID.stripe_up,(.st [] [0] [(2496,false),(8225,false)] zaV),zty⟩
noncomputable def zor (zaW zbr:Zs) (a0:Nat) (a1:List D) (a2:Int) (T0 T1:Tb):Option Ans:=
 zam (zaW [.h 2496 a0 0] [T0]) fun r1=>
 nilK r1.outs <|
 nilK r1.tbs <|
 asI .i64 r1.r fun i2=>
 brK (decide (a2 < i2))
  (brK (decide (a2 < (↑(a1.length):Int)))
   (sif (0≤a2) <|
   getK a1 (a2.toNat) fun d3=>
   asB d3 fun b4=>
   brK b4
    (zam (zbr [.h 2496 a0 0,.int .i64 a2] [T0,T1]) fun r5=>
    nilK r5.outs <|
    nilK r5.tbs <|
    asB r5.r fun b6=>
    some (Ans.mk (.bool !b6) [] []))
    (some (Ans.mk (.bool false) [] [])))
   (some (Ans.mk (.bool false) [] [])))
  (some (Ans.mk (.bool false) [] []))
theorem zzJ (zaW zbr:Zs) (tga1:Tag) (a0:Nat) (a1:List D) (a2:Int) (T0 T1:Tb):denS Tryz.prog (zav [(ID.bench_Bench_Len,(.st [] [0] [(2496,false)] zaW)),(ID.bench_Bench_Failed,(.st [] [0] [(2496,false),(8225,false)] zbr))]) zpF [0] ID.stripe_up [.h 2496 a0 0,.sl tga1 a1,.int .i64 a2] [T0,T1]=zor zaW zbr a0 (D.lentL a1) a2 T0 T1:=by kernel_rfl
theorem zun (tga1:Tag) (a0:Nat) (a1:List D) (a2:Int) (T0 T1:Tb):zaV [.h 2496 a0 0,.sl tga1 a1,.int .i64 a2] [T0,T1]=zor zaW zbr a0 (D.lentL a1) a2 T0 T1:=zzJ zaW zbr tga1 a0 a1 a2 T0 T1
def zh4:Ann:={ loops:=[],ks:=[(2496,false)] }
noncomputable def zaB:Zs:=denS Tryz.prog (zav [(ID.bench_Bench_is,(.st [] [0] [(2496,false)] zar))]) zh4 [0] ID.bench_Bench_may
theorem zmh:za3 Tryz.prog ID.bench_Bench_may (.st [] [0] [(2496,false)] zaB):=zbg (zax [zfd]) zbs ⟨Tryz.f53,by kernel_rfl,by kernel_rfl,by kernel_rfl⟩
noncomputable def zeU:Fact Tryz.prog:=⟨ID.bench_Bench_may,(.st [] [0] [(2496,false)] zaB),zmh⟩
noncomputable def zgn (zar:Zs) (a0:Nat) (a1:Int) (T0:Tb):Option Ans:=
 zam (zar [.h 2496 a0 0,.int .i64 a1] [T0]) fun r1=>
 nilK r1.outs <|
 nilK r1.tbs <|
 asB r1.r fun b2=>
 brK (!b2)
  (some (Ans.mk (.int .i64 1) [] []))
  (getK T0 a0 fun d3=>
  getK d3 ((2:Nat)) fun d4=>
  asB d4 fun b5=>
  brK b5
   (some (Ans.mk (.int .i64 6) [] []))
   (some (Ans.mk (.int .i64 0) [] [])))
theorem zqB (zar:Zs) (a0:Nat) (a1:Int) (T0:Tb):denS Tryz.prog (zav [(ID.bench_Bench_is,(.st [] [0] [(2496,false)] zar))]) zh4 [0] ID.bench_Bench_may [.h 2496 a0 0,.int .i64 a1] [T0]=zgn zar a0 a1 T0:=by kernel_rfl
theorem znp (a0:Nat) (a1:Int) (T0:Tb):zaB [.h 2496 a0 0,.int .i64 a1] [T0]=zgn zar a0 a1 T0:=zqB zar a0 a1 T0
def zeJ:Ann:={ loops:=[] }
noncomputable def zaq:Zp:=denE Tryz.prog (zav []) zeJ [1] ID.slices_Clone_byte_byte
theorem zht:za3 Tryz.prog ID.slices_Clone_byte_byte (.pure [1] zaq):=zvf (zax []) zbs ⟨Tryz.f99,by kernel_rfl,by kernel_rfl,by kernel_rfl⟩
noncomputable def zer:Fact Tryz.prog:=⟨ID.slices_Clone_byte_byte,(.pure [1] zaq),zht⟩
noncomputable def zdQ (a0:D) (b0:List D):Option D:=
 sif (List.length (a0::b0)≤4294967296) <|
 sif (zeK (1:Nat) (a0::b0)=true) <|
 sif (List.length (a0::b0)=List.length (a0::b0)) <|
 sif (List.all (a0::b0) D.free=true) <|
 some (.sl .own (a0::b0))
theorem zjF (tga0:Tag) (a0:D) (b0:List D):denE Tryz.prog (zav []) zeJ [1] ID.slices_Clone_byte_byte [.sl tga0 (a0::b0)]=zdQ (D.lent a0) (D.lentL b0):=by kernel_rfl
theorem zh5 (tga0:Tag) (a0:D) (b0:List D):zaq [.sl tga0 (a0::b0)]=zdQ (D.lent a0) (D.lentL b0):=zjF tga0 a0 b0
theorem zhu (tg:Tag):zaq [.sl tg []]=some (.sl .own []):=(zri (some (.sl .own [])))
def ziF:Ann:={ loops:=[(1,.dead::.val (.cell (.int .i64))::dd 5 (.box true [(.arr 32)]::dd 17 [.view 8225 1664,.val (.cell (.int .i64)),.val (.cell (.int .i64))]))],ks:=[(8225,false)] }
noncomputable def zb4:Zs:=denS Tryz.prog (zav [(ID.disk_Disk_may,(.st [] [0] [(8225,false)] za9)),(ID.slices_Clone_byte_byte,(.pure [1] zaq))]) ziF [1,0] ID.disk_Disk_Read
theorem znq:za3 Tryz.prog ID.disk_Disk_Read (.st [] [1,0] [(8225,false)] zb4):=zbg (zax [ziC,zer]) zbs ⟨Tryz.f54,by kernel_rfl,by kernel_rfl,by kernel_rfl⟩
noncomputable def zos:Fact Tryz.prog:=⟨ID.disk_Disk_Read,(.st [] [1,0] [(8225,false)] zb4),znq⟩
noncomputable def zgZ (za9:Zs) (zaq:Zp) (a0:Nat) (a1:Int) (T0:Tb):Option Ans:=
 zam (za9 [.h 8225 a0 0,.int .i64 a1] [T0]) fun r1=>
 nilK r1.outs <|
 nilK r1.tbs <|
 asI .i64 r1.r fun i2=>
 brK (i2 != 0)
  (some (Ans.mk (.tup [.sl .own [],.int .i64 i2]) [] []))
  (sif (0≤a1) <|
  sif (a1.toNat < 52) <|
  getK T0 a0 fun d3=>
  sif (0+a1.toNat*32+32≤d3.length) <|
  sif (zfZ (List.take (32:Nat) (List.drop (0+a1.toNat*32) d3))=true) <|
  sif (List.length (List.take (32:Nat) (List.drop (0+a1.toNat*32) d3))=(32:Nat)) <|
  sif (List.length (List.take (32:Nat) (List.drop (0+a1.toNat*32) d3))=(32:Nat)) <|
  getK T0 a0 fun d4=>
  getK d4 ((1664:Nat)) fun d5=>
  za7 d5 fun l6=>
  getK T0 a0 fun d7=>
  getK d7 ((1664:Nat)) fun d8=>
  za7 d8 fun l9=>
  sif (0+l6.length≤l9.length) <|
  zaw ([Lf.arr (32)]) (List.take (32:Nat) (List.drop (0+a1.toNat*32) d3)) fun c10=>
  zca (α:=(Int×(List D×PUnit)×(Nat×Nat×Nat)×Int×Int×PUnit)×List (List D)×PUnit) (fun again11 ((i12,((l13,_),((x14,(x15,x16)),(i17,(i18,_))))),(U19,_))=>
   brK (decide (i18 < i17))
    (getK U19 x14 fun d20=>
    getK d20 ((1664:Nat)) fun d21=>
    za7 d21 fun l22=>
    sif (0≤i18) <|
    sif (i18.toNat < x16) <|
    getK U19 x14 fun d23=>
    getK d23 ((1664:Nat)) fun d24=>
    za7 d24 fun l25=>
    getK l25 (x15+i18.toNat) fun d26=>
    asAgg d26 fun cs27=>
    zaw ([Lf.int .i64,Lf.arr (32)]) cs27 fun c28=>
    sif (D.width (D.agg ([D.int .i64 c28.1]++(c28.2.1++[])))=(33:Nat)) <|
    sif (List.length ([D.int .i64 c28.1]++(c28.2.1++[]))=(33:Nat)) <|
    brK (c28.1 == i12)
     (sif (33≤List.length ([.int .i64 c28.1]++(c28.2.1++[]))) <|
     sif (List.length (List.take (32:Nat) (List.drop (1:Nat) ([D.int .i64 c28.1]++(c28.2.1++[]))))=(32:Nat)) <|
     sif (List.length (List.take (32:Nat) (List.drop (1:Nat) ([D.int .i64 c28.1]++(c28.2.1++[]))))=(32:Nat)) <|
     sif (32≤List.length (l13++[])) <|
     letN (IntKind.i64.wrap (i18+1)) fun n29=>
     zaw ([Lf.arr (32)]) (spl (0:Nat) (32:Nat) (l13++[]) (List.take (32:Nat) (List.drop (1:Nat) ([.int .i64 c28.1]++(c28.2.1++[]))))) fun c30=>
     again11 (((i12,c30,(x14,x15,x16),i17,n29,unit),U19,unit)))
     (letN (IntKind.i64.wrap (i18+1)) fun n31=>
     zaw ([Lf.arr (32)]) (l13++[]) fun c32=>
     again11 (((i12,c32,(x14,x15,x16),i17,n31,unit),U19,unit))))
    (sif (32≤List.length (l13++[])) <|
    sif (32≤List.length (l13++[])) <|
    zam (zaq [.sl .lent (cut (0:Nat) (32:Nat) (l13++[]))]) fun r33=>
    za7 r33 fun l34=>
    sif (l34.length=l34.length) <|
    sif (List.all l34 D.free=true) <|
    some (Ans.mk (.tup [.sl .own l34,.int .i64 0]) [] [])))
   (((a1,c10,(a0,(0:Nat),l6.length),(↑(l6.length):Int),(0:Int),unit),T0,unit)))
theorem zrI (za9:Zs) (zaq:Zp) (a0:Nat) (a1:Int) (T0:Tb):denS Tryz.prog (zav [(ID.disk_Disk_may,(.st [] [0] [(8225,false)] za9)),(ID.slices_Clone_byte_byte,(.pure [1] zaq))]) ziF [1,0] ID.disk_Disk_Read [.h 8225 a0 0,.int .i64 a1] [T0]=zgZ za9 zaq a0 a1 T0:=by kernel_rfl
theorem zot (a0:Nat) (a1:Int) (T0:Tb):zb4 [.h 8225 a0 0,.int .i64 a1] [T0]=zgZ za9 zaq a0 a1 T0:=zrI za9 zaq a0 a1 T0
def zhe:Ann:={ loops:=[],ks:=[(2496,false),(8225,false)] }
noncomputable def zaO:Zs:=denS Tryz.prog (zav [(ID.bench_Bench_may,(.st [] [0] [(2496,false)] zaB)),(ID.disk_Disk_Read,(.st [] [1,0] [(8225,false)] zb4))]) zhe [1,0] ID.bench_Bench_Read
theorem zlg:za3 Tryz.prog ID.bench_Bench_Read (.st [] [1,0] [(2496,false),(8225,false)] zaO):=zbg (zax [zeU,zos]) zbs ⟨Tryz.f21,by kernel_rfl,by kernel_rfl,by kernel_rfl⟩
noncomputable def zgP:Fact Tryz.prog:=⟨ID.bench_Bench_Read,(.st [] [1,0] [(2496,false),(8225,false)] zaO),zlg⟩
noncomputable def zfM (zaB zb4:Zs) (a0:Nat) (a1 a2:Int) (T0 T1:Tb):Option Ans:=
 zam (zaB [.h 2496 a0 0,.int .i64 a1] [T0]) fun r1=>
 nilK r1.outs <|
 nilK r1.tbs <|
 asI .i64 r1.r fun i2=>
 brK (i2 != 0)
  (some (Ans.mk (.tup [.sl .own [],.int .i64 i2]) [] []))
  (getK T0 a0 fun d3=>
  getK d3 ((3:Nat)) fun d4=>
  za7 d4 fun l5=>
  getK T0 a0 fun d6=>
  getK d6 ((3:Nat)) fun d7=>
  za7 d7 fun l8=>
  sif (0≤a1) <|
  sif (a1.toNat < l5.length) <|
  getK T0 a0 fun d9=>
  getK d9 ((3:Nat)) fun d10=>
  za7 d10 fun l11=>
  getK l11 (0+a1.toNat) fun d12=>
  sif (D.isAgg d12=false) <|
  sif (D.width d12=(1:Nat)) <|
  sif (D.cell d12=true) <|
  zam (zb4 [d12,.int .i64 a2] [T1]) fun r13=>
  nilK r13.outs <|
  nilK r13.tbs <|
  zdi r13.r fun ts14=>
  zaw ([Lf.any,Lf.any]) ts14 fun c15=>
  za7 c15.1 fun l16=>
  asI .i64 c15.2.1 fun i17=>
  sif (l16.length=l16.length) <|
  sif (List.all l16 D.free=true) <|
  some (Ans.mk (.tup [.sl .own l16,.int .i64 i17]) [] []))
theorem zpG (zaB zb4:Zs) (a0:Nat) (a1 a2:Int) (T0 T1:Tb):denS Tryz.prog (zav [(ID.bench_Bench_may,(.st [] [0] [(2496,false)] zaB)),(ID.disk_Disk_Read,(.st [] [1,0] [(8225,false)] zb4))]) zhe [1,0] ID.bench_Bench_Read [.h 2496 a0 0,.int .i64 a1,.int .i64 a2] [T0,T1]=zfM zaB zb4 a0 a1 a2 T0 T1:=by kernel_rfl
theorem zmi (a0:Nat) (a1 a2:Int) (T0 T1:Tb):zaO [.h 2496 a0 0,.int .i64 a1,.int .i64 a2] [T0,T1]=zfM zaB zb4 a0 a1 a2 T0 T1:=zpG zaB zb4 a0 a1 a2 T0 T1
def zvn:Ann:={ loops:=[] }
noncomputable def zc0:Zp:=denP Tryz.prog (zav [(ID.geom_Check,(.pure [0] zao))]) zvn [0] ID.row_in
theorem zyq:za3 Tryz.prog ID.row_in (.pure [0] zc0):=zan (zax [zdP]) zbs ⟨Tryz.f100,by kernel_rfl,by kernel_rfl,by kernel_rfl⟩
noncomputable def ztz:Fact Tryz.prog:=⟨ID.row_in,(.pure [0] zc0),zyq⟩
noncomputable def zwJ (zao:Zp) (a0_0 a0_1 a0_2 a1:Int):Option D:=
 zam (zao [.agg [.int .i64 a0_0,.int .i64 a0_1,.int .i64 a0_2]]) fun r1=>
 asI .i64 r1 fun i2=>
 brK (i2 == 0)
  (brK (decide (a1≥0))
   (some (.bool (decide (a1 < 16))))
   (some (.bool false)))
  (some (.bool false))
theorem zFn (zao:Zp) (a0_0 a0_1 a0_2 a1:Int):denP Tryz.prog (zav [(ID.geom_Check,(.pure [0] zao))]) zvn [0] ID.row_in [.agg [.int .i64 a0_0,.int .i64 a0_1,.int .i64 a0_2],.int .i64 a1]=zwJ zao a0_0 a0_1 a0_2 a1:=by kernel_rfl
theorem zzK (a0_0 a0_1 a0_2 a1:Int):zc0 [.agg [.int .i64 a0_0,.int .i64 a0_1,.int .i64 a0_2],.int .i64 a1]=zwJ zao a0_0 a0_1 a0_2 a1:=zFn zao a0_0 a0_1 a0_2 a1
def zjG:Ann:={ loops:=[(0,dd 3 (.own 1::dd 2 [.val (.cell .lent),.val (.cell (.int .i64)),.val (.cell (.int .i64))]))] }
noncomputable def zb1:Zp:=denP Tryz.prog (zav []) zjG [1] ID.erase_Missing
theorem zou:za3 Tryz.prog ID.erase_Missing (.pure [1] zb1):=zan (zax []) zbs ⟨Tryz.f133,by kernel_rfl,by kernel_rfl,by kernel_rfl⟩
noncomputable def zpH:Fact Tryz.prog:=⟨ID.erase_Missing,(.pure [1] zb1),zou⟩
noncomputable def zh6 (a0:List D):Option D:=
 zca (α:=(List D×List D×Int×Int×PUnit)×PUnit) (fun again1 ((l2,(l3,(i4,(i5,_)))),_)=>
  brK (decide (i5 < i4))
   (sif (0≤i5) <|
   getK l3 (i5.toNat) fun d6=>
   asSl d6 fun t7 l8=>
   brK ((↑(l8.length):Int) == 0)
    (sif (l2.length+1≤4294967296) <|
    sif (l2.length=l2.length) <|
    letN (IntKind.i64.wrap (i5+1)) fun n9=>
    sif (l2.length+1=List.length (l2++[D.int .i64 i5])) <|
    again1 (((l2++[.int .i64 i5],l3,i4,n9,unit),unit)))
    (letN (IntKind.i64.wrap (i5+1)) fun n10=>
    sif (l2.length=l2.length) <|
    again1 (((l2,l3,i4,n10,unit),unit))))
   (sif (l2.length=l2.length) <|
   sif (List.all l2 D.free=true) <|
   some (.sl .own l2)))
  ((([],a0,(↑(a0.length):Int),(0:Int),unit),unit))
theorem ztA (tga0:Tag) (a0:List D):denP Tryz.prog (zav []) zjG [1] ID.erase_Missing [.sl tga0 a0]=zh6 (D.lentL a0):=by kernel_rfl
theorem zpI (tga0:Tag) (a0:List D):zb1 [.sl tga0 a0]=zh6 (D.lentL a0):=ztA tga0 a0
def zkR:Ann:={ loops:=[],hints:=[(1,.at1 (.int .i64))] }
noncomputable def zaG:Zp:=denP Tryz.prog (zav []) zkR [0] ID.erase_fits_1
theorem zpJ:za3 Tryz.prog ID.erase_fits_1 (.pure [0] zaG):=zan (zax []) zbs ⟨Tryz.f153,by kernel_rfl,by kernel_rfl,by kernel_rfl⟩
noncomputable def zjH:Fact Tryz.prog:=⟨ID.erase_fits_1,(.pure [0] zaG),zpJ⟩
noncomputable def ziV (a0:List D) (c0:Int):Option D:=
 brK (decide ((↑(a0.length):Int) > 0))
  (some (.bool ((↑(a0.length):Int) != c0)))
  (some (.bool false))
theorem zuo (tga0:Tag) (a0:List D) (c0:Int):denP Tryz.prog (zav []) zkR [0] ID.erase_fits_1 [.sl tga0 a0,.at_ (.int .i64 c0)]=ziV (D.lentL a0) c0:=by kernel_rfl
theorem zqC (tga0:Tag) (a0:List D) (c0:Int):zaG [.sl tga0 a0,.at_ (.int .i64 c0)]=ziV (D.lentL a0) c0:=zuo tga0 a0 c0
def zjI:Ann:={ loops:=[] }
noncomputable def zau:Zp:=denP Tryz.prog (zav []) zjI [0] ID.row_sectors_1
theorem zov:za3 Tryz.prog ID.row_sectors_1 (.pure [0] zau):=zan (zax []) zbs ⟨Tryz.f139,by kernel_rfl,by kernel_rfl,by kernel_rfl⟩
noncomputable def zfN:Fact Tryz.prog:=⟨ID.row_sectors_1,(.pure [0] zau),zov⟩
noncomputable def zh7 (a0:List D):Option D:=
 some (.bool ((↑(a0.length):Int) != 32))
theorem ztB (tga0:Tag) (a0:List D):denP Tryz.prog (zav []) zjI [0] ID.row_sectors_1 [.sl tga0 a0]=zh7 (D.lentL a0):=by kernel_rfl
theorem zpK (tga0:Tag) (a0:List D):zau [.sl tga0 a0]=zh7 (D.lentL a0):=ztB tga0 a0
def zow:Ann:={ loops:=[] }
noncomputable def zaC:Zp:=denP Tryz.prog (zav []) zow [0] ID.record_Decode_1
theorem zmj:za3 Tryz.prog ID.record_Decode_1 (.pure [0] zaC):=zan (zax []) zbs ⟨Tryz.f108,by kernel_rfl,by kernel_rfl,by kernel_rfl⟩
noncomputable def zhf:Fact Tryz.prog:=⟨ID.record_Decode_1,(.pure [0] zaC),zmj⟩
def zcV:List (Nat×Ann):=[(153,{ loops:=[(0,[.val (.cell .lent),.val (.fn1 (153:FuncId) (.int .i64)),.dead,.dead,.dead,.dead,.dead,.val (.cell (.int .i64)),.val (.cell (.int .i64))])] }),(139,{ loops:=[(0,[.val (.cell .lent),.fnc 139,.dead,.dead,.dead,.dead,.dead,.val (.cell (.int .i64)),.val (.cell (.int .i64))])] }),(108,{ loops:=[(0,[.val (.cell .lent),.fnc 108,.dead,.dead,.dead,.dead,.dead,.val (.cell (.int .i64)),.val (.cell (.int .i64))])] })]
noncomputable def zal:Zp:=denA Tryz.prog (zav [(ID.erase_fits_1,(.pure [0] zaG)),(ID.row_sectors_1,(.pure [0] zau)),(ID.record_Decode_1,(.pure [0] zaC))]) zcV [0] ID.slices_IndexFunc_byte_byte
theorem zf0:za3 Tryz.prog ID.slices_IndexFunc_byte_byte (.pure [0] zal):=zvg (zax [zjH,zfN,zhf]) zbs ⟨Tryz.f143,by kernel_rfl,by kernel_rfl,by kernel_rfl⟩
noncomputable def zgo:Fact Tryz.prog:=⟨ID.slices_IndexFunc_byte_byte,(.pure [0] zal),zf0⟩
noncomputable def zcC (zaG zau zaC:Zp) (a0:List D) (c0:Int):Option D:=
 zca (α:=(List D×Int×Int×Int×PUnit)×PUnit) (fun again1 ((l2,(i3,(i4,(i5,_)))),_)=>
  brK (decide (i5 < i4))
   (sif (0≤i5) <|
   getK l2 (i5.toNat) fun d6=>
   asSl d6 fun t7 l8=>
   zam (zaG [.sl t7 l8,D.at_ (.int .i64 i3)]) fun r9=>
   asB r9 fun b10=>
   brK b10
    (some (.int .i64 i5))
    (letN (IntKind.i64.wrap (i5+1)) fun n11=>
    again1 (((l2,i3,i4,n11,unit),unit))))
   (some (.int .i64 (-1))))
  (((a0,c0,(↑(a0.length):Int),(0:Int),unit),unit))
theorem zft (zaG zau zaC:Zp) (tga0:Tag) (a0:List D) (c0:Int):denA Tryz.prog (zav [(ID.erase_fits_1,(.pure [0] zaG)),(ID.row_sectors_1,(.pure [0] zau)),(ID.record_Decode_1,(.pure [0] zaC))]) zcV [0] ID.slices_IndexFunc_byte_byte [.sl tga0 a0,.fn 153 [] [.at_ (.int .i64 c0)]]=zcC zaG zau zaC (D.lentL a0) c0:=by kernel_rfl
theorem zeV (tga0:Tag) (a0:List D) (c0:Int):zal [.sl tga0 a0,.fn 153 [] [.at_ (.int .i64 c0)]]=zcC zaG zau zaC (D.lentL a0) c0:=zft zaG zau zaC tga0 a0 c0
noncomputable def zcr (zaG zau zaC:Zp) (a0:List D):Option D:=
 zca (α:=(List D×Int×Int×PUnit)×PUnit) (fun again1 ((l2,(i3,(i4,_))),_)=>
  brK (decide (i4 < i3))
   (sif (0≤i4) <|
   getK l2 (i4.toNat) fun d5=>
   asSl d5 fun t6 l7=>
   zam (zau [.sl t6 l7]) fun r8=>
   asB r8 fun b9=>
   brK b9
    (some (.int .i64 i4))
    (letN (IntKind.i64.wrap (i4+1)) fun n10=>
    again1 (((l2,i3,n10,unit),unit))))
   (some (.int .i64 (-1))))
  (((a0,(↑(a0.length):Int),(0:Int),unit),unit))
theorem zeW (zaG zau zaC:Zp) (tga0:Tag) (a0:List D):denA Tryz.prog (zav [(ID.erase_fits_1,(.pure [0] zaG)),(ID.row_sectors_1,(.pure [0] zau)),(ID.record_Decode_1,(.pure [0] zaC))]) zcV [0] ID.slices_IndexFunc_byte_byte [.sl tga0 a0,.fn 139 [] []]=zcr zaG zau zaC (D.lentL a0):=by kernel_rfl
theorem zef (tga0:Tag) (a0:List D):zal [.sl tga0 a0,.fn 139 [] []]=zcr zaG zau zaC (D.lentL a0):=zeW zaG zau zaC tga0 a0
def zcI:Ann:={ loops:=[] }
noncomputable def zai:Zp:=denP Tryz.prog (zav [(ID.slices_IndexFunc_byte_byte,(.pure [0] zal)),(ID.erase_fits_1,(.pure [0] zaG)),(ID.row_sectors_1,(.pure [0] zau)),(ID.record_Decode_1,(.pure [0] zaC))]) zcI [0] ID.slices_ContainsFunc_byte_byte
theorem zff:za3 Tryz.prog ID.slices_ContainsFunc_byte_byte (.pure [0] zai):=zan (zax [zgo,zjH,zfN,zhf]) zbs ⟨Tryz.f107,by kernel_rfl,by kernel_rfl,by kernel_rfl⟩
noncomputable def zdq:Fact Tryz.prog:=⟨ID.slices_ContainsFunc_byte_byte,(.pure [0] zai),zff⟩
noncomputable def zcs (zal zaG zau zaC:Zp) (a0:List D) (c0:Int):Option D:=
 zam (zal [.sl .lent a0,.fn (153:FuncId) [] [D.at_ (.int .i64 c0)]]) fun r1=>
 asI .i64 r1 fun i2=>
 some (.bool (decide (i2≥0)))
theorem zeX (zal zaG zau zaC:Zp) (tga0:Tag) (a0:List D) (c0:Int):denP Tryz.prog (zav [(ID.slices_IndexFunc_byte_byte,(.pure [0] zal)),(ID.erase_fits_1,(.pure [0] zaG)),(ID.row_sectors_1,(.pure [0] zau)),(ID.record_Decode_1,(.pure [0] zaC))]) zcI [0] ID.slices_ContainsFunc_byte_byte [.sl tga0 a0,.fn 153 [] [.at_ (.int .i64 c0)]]=zcs zal zaG zau zaC (D.lentL a0) c0:=by kernel_rfl
theorem zeg (tga0:Tag) (a0:List D) (c0:Int):zai [.sl tga0 a0,.fn 153 [] [.at_ (.int .i64 c0)]]=zcs zal zaG zau zaC (D.lentL a0) c0:=zeX zal zaG zau zaC tga0 a0 c0
noncomputable def zcf (zal zaG zau zaC:Zp) (a0:List D):Option D:=
 zam (zal [.sl .lent a0,.fn (139:FuncId) [] []]) fun r1=>
 asI .i64 r1 fun i2=>
 some (.bool (decide (i2≥0)))
theorem zeh (zal zaG zau zaC:Zp) (tga0:Tag) (a0:List D):denP Tryz.prog (zav [(ID.slices_IndexFunc_byte_byte,(.pure [0] zal)),(ID.erase_fits_1,(.pure [0] zaG)),(ID.row_sectors_1,(.pure [0] zau)),(ID.record_Decode_1,(.pure [0] zaC))]) zcI [0] ID.slices_ContainsFunc_byte_byte [.sl tga0 a0,.fn 139 [] []]=zcf zal zaG zau zaC (D.lentL a0):=by kernel_rfl
theorem zd0 (tga0:Tag) (a0:List D):zai [.sl tga0 a0,.fn 139 [] []]=zcf zal zaG zau zaC (D.lentL a0):=zeh zal zaG zau zaC tga0 a0
def znN:Ann:={ loops:=[] }
noncomputable def zcu:Zp:=denP Tryz.prog (zav [(ID.slices_ContainsFunc_byte_byte,(.pure [0] zai))]) znN [0] ID.erase_fits
theorem zrJ:za3 Tryz.prog ID.erase_fits (.pure [0] zcu):=zan (zax [zdq]) zbs ⟨Tryz.f134,by kernel_rfl,by kernel_rfl,by kernel_rfl⟩
noncomputable def ztC:Fact Tryz.prog:=⟨ID.erase_fits,(.pure [0] zcu),zrJ⟩
noncomputable def zmk (zai:Zp) (a0:Int) (a1:List D):Option D:=
 zam (zai [.sl .lent a1,.fn (153:Nat) [] [D.at_ (.int .i64 a0)]]) fun r1=>
 asB r1 fun b2=>
 some (.bool !b2)
theorem zyr (zai:Zp) (tga1:Tag) (a0:Int) (a1:List D):denP Tryz.prog (zav [(ID.slices_ContainsFunc_byte_byte,(.pure [0] zai))]) znN [0] ID.erase_fits [.int .i64 a0,.sl tga1 a1]=zmk zai a0 (D.lentL a1):=by kernel_rfl
theorem ztD (tga1:Tag) (a0:Int) (a1:List D):zcu [.int .i64 a0,.sl tga1 a1]=zmk zai a0 (D.lentL a1):=zyr zai tga1 a0 a1
def zkS:Ann:={ loops:=[(0,.val (.cell (.int .i64))::dd 4 (.own 1::dd 3 [.val (.cell .lent),.val (.cell (.int .i64)),.val (.cell (.int .i64))]))] }
noncomputable def zcb:Zp:=denP Tryz.prog (zav []) zkS [1] ID.erase_filled
theorem zpL:za3 Tryz.prog ID.erase_filled (.pure [1] zcb):=zan (zax []) zbs ⟨Tryz.f135,by kernel_rfl,by kernel_rfl,by kernel_rfl⟩
noncomputable def zqD:Fact Tryz.prog:=⟨ID.erase_filled,(.pure [1] zcb),zpL⟩
noncomputable def ziW (a0:Int) (a1:List D):Option D:=
 zca (α:=(Int×List D×List D×Int×Int×PUnit)×PUnit) (fun again1 ((i2,(l3,(l4,(i5,(i6,_))))),_)=>
  brK (decide (i6 < i5))
   (sif (0≤i6) <|
   getK l4 (i6.toNat) fun d7=>
   asSl d7 fun t8 l9=>
   sif (0≤i2) <|
   sif (i2=i2) <|
   sif (i2*1≤140737488355328) <|
   sif (i2≤140737488355328) <|
   sif (0+i2.toNat≤List.length (List.replicate (i2.toNat) (D.int .u8 0))) <|
   sif (cells l9=true) <|
   sif (0+i2.toNat≤List.length ([]++List.take (i2.toNat) l9++List.drop (0+List.length (List.take (i2.toNat) l9)) (List.replicate (i2.toNat) (D.int .u8 0)))) <|
   sif (l3.length+1≤4294967296) <|
   sif (l3.length=l3.length) <|
   letN (IntKind.i64.wrap (i6+1)) fun n10=>
   sif (l3.length+1=List.length (l3++[D.sl .fresh (cut (0:Nat) (i2.toNat) ([]++List.take (i2.toNat) l9++List.drop (0+List.length (List.take (i2.toNat) l9)) (List.replicate (i2.toNat) (D.int .u8 0))))])) <|
   again1 (((i2,l3++[.sl .fresh (cut (0:Nat) (i2.toNat) ([]++List.take (i2.toNat) l9++List.drop (0+List.length (List.take (i2.toNat) l9)) (List.replicate (i2.toNat) (.int .u8 0))))],l4,i5,n10,unit),unit)))
   (sif (l3.length=l3.length) <|
   sif (List.all l3 D.free=true) <|
   some (.sl .own l3)))
  (((a0,[],a1,(↑(a1.length):Int),(0:Int),unit),unit))
theorem zup (tga1:Tag) (a0:Int) (a1:List D):denP Tryz.prog (zav []) zkS [1] ID.erase_filled [.int .i64 a0,.sl tga1 a1]=ziW a0 (D.lentL a1):=by kernel_rfl
theorem zqE (tga1:Tag) (a0:Int) (a1:List D):zcb [.int .i64 a0,.sl tga1 a1]=ziW a0 (D.lentL a1):=zup tga1 a0 a1
def zpM:Ann:={ loops:=[] }
noncomputable def zbf:Zp:=denP Tryz.prog (zav []) zpM [0] ID.gf_double
theorem ztE:za3 Tryz.prog ID.gf_double (.pure [0] zbf):=zan (zax []) zbs ⟨Tryz.f156,by kernel_rfl,by kernel_rfl,by kernel_rfl⟩
noncomputable def ziX:Fact Tryz.prog:=⟨ID.gf_double,(.pure [0] zbf),ztE⟩
noncomputable def zox (a0:Int):Option D:=
 brK (decide (a0≥128))
  (letN (IntKind.u8.wrap (a0*2)) fun n1=>
  letN (bits BinOp.xor IntKind.u8 n1 (29:Int)) fun n2=>
  some (.int .u8 n2))
  (letN (IntKind.u8.wrap (a0*2)) fun n3=>
  some (.int .u8 n3))
theorem zzL (a0:Int):denP Tryz.prog (zav []) zpM [0] ID.gf_double [.int .u8 a0]=zox a0:=by kernel_rfl
theorem zuq (a0:Int):zbf [.int .u8 a0]=zox a0:=zzL a0
def zvo:Ann:={ loops:=[(0,.val (.cell (.int .u8))::.val (.cell (.int .u8))::dd 3 [.val (.cell (.int .u8))])] }
noncomputable def ze3:Zp:=denP Tryz.prog (zav [(ID.gf_double,(.pure [0] zbf))]) zvo [0] ID.gf_Mul
theorem zys:za3 Tryz.prog ID.gf_Mul (.pure [0] ze3):=zan (zax [ziX]) zbs ⟨Tryz.f160,by kernel_rfl,by kernel_rfl,by kernel_rfl⟩
noncomputable def zzM:Fact Tryz.prog:=⟨ID.gf_Mul,(.pure [0] ze3),zys⟩
noncomputable def zwK (zbf:Zp) (a0 a1:Int):Option D:=
 zca (α:=(Int×Int×Int×PUnit)×PUnit) (fun again1 ((i2,(i3,(i4,_))),_)=>
  brK (decide (i3 > 0))
   (letN (bits BinOp.and IntKind.u8 i3 (1:Int)) fun n5=>
   brK (n5 == 1)
    (letN (bits BinOp.xor IntKind.u8 i4 i2) fun n6=>
    zam (zbf [.int .u8 i2]) fun r7=>
    asI .u8 r7 fun i8=>
    letN (Int.fdiv i3 (2:Int)) fun n9=>
    again1 (((i8,n9,n6,unit),unit)))
    (zam (zbf [.int .u8 i2]) fun r10=>
    asI .u8 r10 fun i11=>
    letN (Int.fdiv i3 (2:Int)) fun n12=>
    again1 (((i11,n12,i4,unit),unit))))
   (some (.int .u8 i4)))
  (((a0,a1,(0:Int),unit),unit))
theorem zFo (zbf:Zp) (a0 a1:Int):denP Tryz.prog (zav [(ID.gf_double,(.pure [0] zbf))]) zvo [0] ID.gf_Mul [.int .u8 a0,.int .u8 a1]=zwK zbf a0 a1:=by kernel_rfl
theorem zzN (a0 a1:Int):ze3 [.int .u8 a0,.int .u8 a1]=zwK zbf a0 a1:=zFo zbf a0 a1
def znO:Ann:={ loops:=[(0,.dead::.val (.cell (.int .u8))::dd 3 (.own 1::dd 2 [.val (.cell .lent),.val (.cell (.int .i64)),.val (.cell (.int .i64))]))] }
noncomputable def zaL:Zp:=denP Tryz.prog (zav [(ID.gf_Mul,(.pure [0] ze3))]) znO [1] ID.synd_Scale
theorem zrK:za3 Tryz.prog ID.synd_Scale (.pure [1] zaL):=zan (zax [zzM]) zbs ⟨Tryz.f155,by kernel_rfl,by kernel_rfl,by kernel_rfl⟩
noncomputable def zh8:Fact Tryz.prog:=⟨ID.synd_Scale,(.pure [1] zaL),zrK⟩
noncomputable def zml (ze3:Zp) (a0:List D) (a1:Int):Option D:=
 zca (α:=(Int×List D×List D×Int×Int×PUnit)×PUnit) (fun again1 ((i2,(l3,(l4,(i5,(i6,_))))),_)=>
  brK (decide (i6 < i5))
   (sif (0≤i6) <|
   getK l4 (i6.toNat) fun d7=>
   asI .u8 d7 fun i8=>
   zam (ze3 [.int .u8 i8,.int .u8 i2]) fun r9=>
   asI .u8 r9 fun i10=>
   sif (l3.length+1≤4294967296) <|
   sif (l3.length=l3.length) <|
   letN (IntKind.i64.wrap (i6+1)) fun n11=>
   sif (l3.length+1=List.length (l3++[D.int .u8 i10])) <|
   again1 (((i2,l3++[.int .u8 i10],l4,i5,n11,unit),unit)))
   (sif (l3.length=l3.length) <|
   sif (List.all l3 D.free=true) <|
   some (.sl .own l3)))
  (((a1,[],a0,(↑(a0.length):Int),(0:Int),unit),unit))
theorem zyt (ze3:Zp) (tga0:Tag) (a0:List D) (a1:Int):denP Tryz.prog (zav [(ID.gf_Mul,(.pure [0] ze3))]) znO [1] ID.synd_Scale [.sl tga0 a0,.int .u8 a1]=zml ze3 (D.lentL a0) a1:=by kernel_rfl
theorem ztF (tga0:Tag) (a0:List D) (a1:Int):zaL [.sl tga0 a0,.int .u8 a1]=zml ze3 (D.lentL a0) a1:=zyt ze3 tga0 a0 a1
def zrp:Ann:={ loops:=[(1,.dead::.val (.cell .lent)::dd 3 (.own 1::dd 7 [.val (.cell .lent),.val (.cell (.int .i64)),.val (.cell (.int .i64))]))] }
noncomputable def zaP:Zp:=denP Tryz.prog (zav []) zrp [1] ID.synd_Add
theorem zur:za3 Tryz.prog ID.synd_Add (.pure [1] zaP):=zan (zax []) zbs ⟨Tryz.f137,by kernel_rfl,by kernel_rfl,by kernel_rfl⟩
noncomputable def zhv:Fact Tryz.prog:=⟨ID.synd_Add,(.pure [1] zaP),zur⟩
noncomputable def zqF (a0 a1:List D):Option D:=
 brK ((↑(a0.length):Int) != (↑(a1.length):Int))
  (some (.sl .own []))
  (zca (α:=(List D×List D×List D×Int×Int×PUnit)×PUnit) (fun again1 ((l2,(l3,(l4,(i5,(i6,_))))),_)=>
   brK (decide (i6 < i5))
    (sif (0≤i6) <|
    getK l4 (i6.toNat) fun d7=>
    asI .u8 d7 fun i8=>
    sif (0≤i6) <|
    getK l2 (i6.toNat) fun d9=>
    asI .u8 d9 fun i10=>
    letN (bits BinOp.xor IntKind.u8 i8 i10) fun n11=>
    sif (l3.length+1≤4294967296) <|
    sif (l3.length=l3.length) <|
    letN (IntKind.i64.wrap (i6+1)) fun n12=>
    sif (l3.length+1=List.length (l3++[D.int .u8 n11])) <|
    again1 (((l2,l3++[.int .u8 n11],l4,i5,n12,unit),unit)))
    (sif (l3.length=l3.length) <|
    sif (List.all l3 D.free=true) <|
    some (.sl .own l3)))
   (((a1,[],a0,(↑(a0.length):Int),(0:Int),unit),unit)))
theorem zBU (tga0 tga1:Tag) (a0 a1:List D):denP Tryz.prog (zav []) zrp [1] ID.synd_Add [.sl tga0 a0,.sl tga1 a1]=zqF (D.lentL a0) (D.lentL a1):=by kernel_rfl
theorem zwL (tga0 tga1:Tag) (a0 a1:List D):zaP [.sl tga0 a0,.sl tga1 a1]=zqF (D.lentL a0) (D.lentL a1):=zBU tga0 tga1 a0 a1
def zvp:Ann:={ loops:=[(0,dd 3 (.val (.cell (.int .u8))::dd 3 [.val (.cell (.int .i64)),.val (.cell (.int .i64))]))] }
noncomputable def za4:Zp:=denP Tryz.prog (zav [(ID.gf_double,(.pure [0] zbf))]) zvp [0] ID.gf_Pow
theorem zyu:za3 Tryz.prog ID.gf_Pow (.pure [0] za4):=zan (zax [ziX]) zbs ⟨Tryz.f142,by kernel_rfl,by kernel_rfl,by kernel_rfl⟩
noncomputable def zh9:Fact Tryz.prog:=⟨ID.gf_Pow,(.pure [0] za4),zyu⟩
noncomputable def zr7 (zbf:Zp) (a0:Int):Option D:=
 letN (Int.tmod a0 (255:Int)) fun n1=>
 letN (IntKind.i64.wrap (n1+255)) fun n2=>
 letN (Int.tmod n2 (255:Int)) fun n3=>
 zca (α:=(Int×Int×Int×PUnit)×PUnit) (fun again4 ((i5,(i6,(i7,_))),_)=>
  brK (decide (i7 < i6))
   (zam (zbf [.int .u8 i5]) fun r8=>
   asI .u8 r8 fun i9=>
   letN (IntKind.i64.wrap (i7+1)) fun n10=>
   again4 (((i9,i6,n10,unit),unit)))
   (some (.int .u8 i5)))
  ((((1:Int),n3,(0:Int),unit),unit))
theorem zFp (zbf:Zp) (a0:Int):denP Tryz.prog (zav [(ID.gf_double,(.pure [0] zbf))]) zvp [0] ID.gf_Pow [.int .i64 a0]=zr7 zbf a0:=by kernel_rfl
theorem ztG (a0:Int):za4 [.int .i64 a0]=zr7 zbf a0:=zFp zbf a0
def zrq:Ann:={ loops:=[] }
noncomputable def zbU:Zp:=denP Tryz.prog (zav []) zrq [0] ID.synd_P_1
theorem zus:za3 Tryz.prog ID.synd_P_1 (.pure [0] zbU):=zan (zax []) zbs ⟨Tryz.f141,by kernel_rfl,by kernel_rfl,by kernel_rfl⟩
noncomputable def zpN:Fact Tryz.prog:=⟨ID.synd_P_1,(.pure [0] zbU),zus⟩
noncomputable def zvq (a0:Int):Option D:=
 some (.int .u8 1)
theorem zBV (a0:Int):denP Tryz.prog (zav []) zrq [0] ID.synd_P_1 [.int .i64 a0]=zvq a0:=by kernel_rfl
theorem zwM (a0:Int):zbU [.int .i64 a0]=zvq a0:=zBV a0
def zmm:List (Nat×Ann):=[(141,{ loops:=[(1,[.dead,.fnc 141,.dead,.dead,.dead,.own 1,.dead,.dead,.dead,.dead,.dead,.dead,.dead,.dead,.dead,.dead,.val (.cell .lent),.val (.cell (.int .i64)),.val (.cell (.int .i64))])] }),(142,{ loops:=[(1,[.dead,.fnc 142,.dead,.dead,.dead,.own 1,.dead,.dead,.dead,.dead,.dead,.dead,.dead,.dead,.dead,.dead,.val (.cell .lent),.val (.cell (.int .i64)),.val (.cell (.int .i64))])] })]
noncomputable def zb7:Zp:=denA Tryz.prog (zav [(ID.synd_Scale,(.pure [1] zaL)),(ID.synd_Add,(.pure [1] zaP)),(ID.gf_Pow,(.pure [0] za4)),(ID.synd_P_1,(.pure [0] zbU))]) zmm [1] ID.synd_sum
theorem zut:za3 Tryz.prog ID.synd_sum (.pure [1] zb7):=zvg (zax [zh8,zhv,zh9,zpN]) zbs ⟨Tryz.f140,by kernel_rfl,by kernel_rfl,by kernel_rfl⟩
noncomputable def zpO:Fact Tryz.prog:=⟨ID.synd_sum,(.pure [1] zb7),zut⟩
noncomputable def zkx (zaL zaP za4 zbU:Zp) (a0:List D):Option D:=
 brK ((↑(a0.length):Int) == 0)
  (some (.sl .own []))
  (getK a0 ((0:Nat)) fun d1=>
  asSl d1 fun t2 l3=>
  sif ((↑(l3.length):Int)=(↑(l3.length):Int)) <|
  sif ((↑(l3.length):Int)*1≤140737488355328) <|
  sif ((↑(l3.length):Int)≤140737488355328) <|
  sif (Int.toNat (↑(l3.length):Int)=List.length (List.replicate (Int.toNat (↑(l3.length):Int)) (D.int .u8 0))) <|
  zca (α:=(List D×List D×Int×Int×PUnit)×PUnit) (fun again4 ((l5,(l6,(i7,(i8,_)))),_)=>
   brK (decide (i8 < i7))
    (sif (0≤i8) <|
    getK l6 (i8.toNat) fun d9=>
    asSl d9 fun t10 l11=>
    sif (0+l5.length≤l5.length) <|
    brK ((↑(l11.length):Int) != (↑(l5.length):Int))
     (some (.sl .own []))
     (zam (zbU [.int .i64 i8]) fun r12=>
     asI .u8 r12 fun i13=>
     zam (zaL [.sl t10 l11,.int .u8 i13]) fun r14=>
     za7 r14 fun l15=>
     sif (0+l5.length≤l5.length) <|
     sif (0+l15.length≤l15.length) <|
     zam (zaP [.sl .lent (cut 0 l5.length l5),.sl .lent (cut 0 l15.length l15)]) fun r16=>
     za7 r16 fun l17=>
     letN (IntKind.i64.wrap (i8+1)) fun n18=>
     sif (l17.length=l17.length) <|
     again4 (((l17,l6,i7,n18,unit),unit))))
    (sif (l5.length=l5.length) <|
    sif (List.all l5 D.free=true) <|
    some (.sl .own l5)))
   (((List.replicate (Int.toNat (↑(l3.length):Int)) (.int .u8 0),a0,(↑(a0.length):Int),(0:Int),unit),unit)))
theorem zwN (zaL zaP za4 zbU:Zp) (tga0:Tag) (a0:List D):denA Tryz.prog (zav [(ID.synd_Scale,(.pure [1] zaL)),(ID.synd_Add,(.pure [1] zaP)),(ID.gf_Pow,(.pure [0] za4)),(ID.synd_P_1,(.pure [0] zbU))]) zmm [1] ID.synd_sum [.sl tga0 a0,.fn 141 [] []]=zkx zaL zaP za4 zbU (D.lentL a0):=by kernel_rfl
theorem zrL (tga0:Tag) (a0:List D):zb7 [.sl tga0 a0,.fn 141 [] []]=zkx zaL zaP za4 zbU (D.lentL a0):=zwN zaL zaP za4 zbU tga0 a0
noncomputable def zky (zaL zaP za4 zbU:Zp) (a0:List D):Option D:=
 brK ((↑(a0.length):Int) == 0)
  (some (.sl .own []))
  (getK a0 ((0:Nat)) fun d1=>
  asSl d1 fun t2 l3=>
  sif ((↑(l3.length):Int)=(↑(l3.length):Int)) <|
  sif ((↑(l3.length):Int)*1≤140737488355328) <|
  sif ((↑(l3.length):Int)≤140737488355328) <|
  sif (Int.toNat (↑(l3.length):Int)=List.length (List.replicate (Int.toNat (↑(l3.length):Int)) (D.int .u8 0))) <|
  zca (α:=(List D×List D×Int×Int×PUnit)×PUnit) (fun again4 ((l5,(l6,(i7,(i8,_)))),_)=>
   brK (decide (i8 < i7))
    (sif (0≤i8) <|
    getK l6 (i8.toNat) fun d9=>
    asSl d9 fun t10 l11=>
    sif (0+l5.length≤l5.length) <|
    brK ((↑(l11.length):Int) != (↑(l5.length):Int))
     (some (.sl .own []))
     (zam (za4 [.int .i64 i8]) fun r12=>
     asI .u8 r12 fun i13=>
     zam (zaL [.sl t10 l11,.int .u8 i13]) fun r14=>
     za7 r14 fun l15=>
     sif (0+l5.length≤l5.length) <|
     sif (0+l15.length≤l15.length) <|
     zam (zaP [.sl .lent (cut 0 l5.length l5),.sl .lent (cut 0 l15.length l15)]) fun r16=>
     za7 r16 fun l17=>
     letN (IntKind.i64.wrap (i8+1)) fun n18=>
     sif (l17.length=l17.length) <|
     again4 (((l17,l6,i7,n18,unit),unit))))
    (sif (l5.length=l5.length) <|
    sif (List.all l5 D.free=true) <|
    some (.sl .own l5)))
   (((List.replicate (Int.toNat (↑(l3.length):Int)) (.int .u8 0),a0,(↑(a0.length):Int),(0:Int),unit),unit)))
theorem zwO (zaL zaP za4 zbU:Zp) (tga0:Tag) (a0:List D):denA Tryz.prog (zav [(ID.synd_Scale,(.pure [1] zaL)),(ID.synd_Add,(.pure [1] zaP)),(ID.gf_Pow,(.pure [0] za4)),(ID.synd_P_1,(.pure [0] zbU))]) zmm [1] ID.synd_sum [.sl tga0 a0,.fn 142 [] []]=zky zaL zaP za4 zbU (D.lentL a0):=by kernel_rfl
theorem zrM (tga0:Tag) (a0:List D):zb7 [.sl tga0 a0,.fn 142 [] []]=zky zaL zaP za4 zbU (D.lentL a0):=zwO zaL zaP za4 zbU tga0 a0
def zvr:Ann:={ loops:=[] }
noncomputable def zch:Zp:=denP Tryz.prog (zav [(ID.synd_sum,(.pure [1] zb7)),(ID.synd_P_1,(.pure [0] zbU))]) zvr [1] ID.synd_P
theorem zyv:za3 Tryz.prog ID.synd_P (.pure [1] zch):=zan (zax [zpO,zpN]) zbs ⟨Tryz.f105,by kernel_rfl,by kernel_rfl,by kernel_rfl⟩
noncomputable def zoy:Fact Tryz.prog:=⟨ID.synd_P,(.pure [1] zch),zyv⟩
noncomputable def zwP (zb7 zbU:Zp) (a0:List D):Option D:=
 zam (zb7 [.sl .lent a0,.fn (141:Nat) [] []]) fun r1=>
 za7 r1 fun l2=>
 sif (l2.length=l2.length) <|
 sif (List.all l2 D.free=true) <|
 some (.sl .own l2)
theorem zFq (zb7 zbU:Zp) (tga0:Tag) (a0:List D):denP Tryz.prog (zav [(ID.synd_sum,(.pure [1] zb7)),(ID.synd_P_1,(.pure [0] zbU))]) zvr [1] ID.synd_P [.sl tga0 a0]=zwP zb7 zbU (D.lentL a0):=by kernel_rfl
theorem zzO (tga0:Tag) (a0:List D):zch [.sl tga0 a0]=zwP zb7 zbU (D.lentL a0):=zFq zb7 zbU tga0 a0
def zvs:Ann:={ loops:=[] }
noncomputable def zci:Zp:=denP Tryz.prog (zav [(ID.synd_sum,(.pure [1] zb7)),(ID.gf_Pow,(.pure [0] za4))]) zvs [1] ID.synd_Q
theorem zyw:za3 Tryz.prog ID.synd_Q (.pure [1] zci):=zan (zax [zpO,zh9]) zbs ⟨Tryz.f106,by kernel_rfl,by kernel_rfl,by kernel_rfl⟩
noncomputable def zoz:Fact Tryz.prog:=⟨ID.synd_Q,(.pure [1] zci),zyw⟩
noncomputable def zwQ (zb7 za4:Zp) (a0:List D):Option D:=
 zam (zb7 [.sl .lent a0,.fn (142:Nat) [] []]) fun r1=>
 za7 r1 fun l2=>
 sif (l2.length=l2.length) <|
 sif (List.all l2 D.free=true) <|
 some (.sl .own l2)
theorem zFr (zb7 za4:Zp) (tga0:Tag) (a0:List D):denP Tryz.prog (zav [(ID.synd_sum,(.pure [1] zb7)),(ID.gf_Pow,(.pure [0] za4))]) zvs [1] ID.synd_Q [.sl tga0 a0]=zwQ zb7 za4 (D.lentL a0):=by kernel_rfl
theorem zzP (tga0:Tag) (a0:List D):zci [.sl tga0 a0]=zwQ zb7 za4 (D.lentL a0):=zFr zb7 za4 tga0 a0
def zvt:Ann:={ loops:=[(0,.val (.cell (.int .u8))::dd 2 [.val (.cell (.int .u8)),.dead,.val (.cell (.int .i64))])] }
noncomputable def ze4:Zp:=denP Tryz.prog (zav [(ID.gf_double,(.pure [0] zbf))]) zvt [0] ID.gf_Log
theorem zyx:za3 Tryz.prog ID.gf_Log (.pure [0] ze4):=zan (zax [ziX]) zbs ⟨Tryz.f159,by kernel_rfl,by kernel_rfl,by kernel_rfl⟩
noncomputable def zzQ:Fact Tryz.prog:=⟨ID.gf_Log,(.pure [0] ze4),zyx⟩
noncomputable def zwR (zbf:Zp) (a0:Int):Option D:=
 zca (α:=(Int×Int×Int×PUnit)×PUnit) (fun again1 ((i2,(i3,(i4,_))),_)=>
  brK (decide (i4 < 255))
   (brK (i3 == i2)
    (some (.int .i64 i4))
    (zam (zbf [.int .u8 i3]) fun r5=>
    asI .u8 r5 fun i6=>
    letN (IntKind.i64.wrap (i4+1)) fun n7=>
    again1 (((i2,i6,n7,unit),unit))))
   (some (.int .i64 (-1))))
  (((a0,(1:Int),(0:Int),unit),unit))
theorem zFs (zbf:Zp) (a0:Int):denP Tryz.prog (zav [(ID.gf_double,(.pure [0] zbf))]) zvt [0] ID.gf_Log [.int .u8 a0]=zwR zbf a0:=by kernel_rfl
theorem zzR (a0:Int):ze4 [.int .u8 a0]=zwR zbf a0:=zFs zbf a0
def zvu:Ann:={ loops:=[] }
noncomputable def zc1:Zp:=denP Tryz.prog (zav [(ID.gf_Log,(.pure [0] ze4)),(ID.gf_Pow,(.pure [0] za4))]) zvu [0] ID.gf_Inv
theorem zyy:za3 Tryz.prog ID.gf_Inv (.pure [0] zc1):=zan (zax [zzQ,zh9]) zbs ⟨Tryz.f154,by kernel_rfl,by kernel_rfl,by kernel_rfl⟩
noncomputable def ztH:Fact Tryz.prog:=⟨ID.gf_Inv,(.pure [0] zc1),zyy⟩
noncomputable def zwS (ze4 za4:Zp) (a0:Int):Option D:=
 brK (a0 == 0)
  (some (.int .u8 0))
  (zam (ze4 [.int .u8 a0]) fun r1=>
  asI .i64 r1 fun i2=>
  letN (IntKind.i64.wrap ((255:Int) - i2)) fun n3=>
  zam (za4 [.int .i64 n3]) fun r4=>
  asI .u8 r4 fun i5=>
  some (.int .u8 i5))
theorem zFt (ze4 za4:Zp) (a0:Int):denP Tryz.prog (zav [(ID.gf_Log,(.pure [0] ze4)),(ID.gf_Pow,(.pure [0] za4))]) zvu [0] ID.gf_Inv [.int .u8 a0]=zwS ze4 za4 a0:=by kernel_rfl
theorem zzS (a0:Int):zc1 [.int .u8 a0]=zwS ze4 za4 a0:=zFt ze4 za4 a0
def zpP:Ann:={ loops:=[] }
noncomputable def zc6:Zp:=denP Tryz.prog (zav [(ID.synd_P,(.pure [1] zch)),(ID.synd_Add,(.pure [1] zaP)),(ID.synd_Q,(.pure [1] zci)),(ID.gf_Pow,(.pure [0] za4)),(ID.gf_Inv,(.pure [0] zc1)),(ID.synd_Scale,(.pure [1] zaL))]) zpP [1,1] ID.erase_two
theorem ztI:za3 Tryz.prog ID.erase_two (.pure [1,1] zc6):=zan (zax [zoy,zhv,zoz,zh9,ztH,zh8]) zbs ⟨Tryz.f136,by kernel_rfl,by kernel_rfl,by kernel_rfl⟩
noncomputable def zuu:Fact Tryz.prog:=⟨ID.erase_two,(.pure [1,1] zc6),ztI⟩
noncomputable def zoA (zch zaP zci za4 zc1 zaL:Zp) (a0 a1 a2:List D) (a3 a4:Int):Option D:=
 zam (zch [.sl .lent a2]) fun r1=>
 za7 r1 fun l2=>
 sif (0+l2.length≤l2.length) <|
 zam (zaP [.sl .lent a0,.sl .lent (cut 0 l2.length l2)]) fun r3=>
 za7 r3 fun l4=>
 zam (zci [.sl .lent a2]) fun r5=>
 za7 r5 fun l6=>
 sif (0+l6.length≤l6.length) <|
 zam (zaP [.sl .lent a1,.sl .lent (cut 0 l6.length l6)]) fun r7=>
 za7 r7 fun l8=>
 zam (za4 [.int .i64 a3]) fun r9=>
 asI .u8 r9 fun i10=>
 zam (za4 [.int .i64 a4]) fun r11=>
 asI .u8 r11 fun i12=>
 letN (bits BinOp.xor IntKind.u8 i10 i12) fun n13=>
 zam (zc1 [.int .u8 n13]) fun r14=>
 asI .u8 r14 fun i15=>
 zam (za4 [.int .i64 a4]) fun r16=>
 asI .u8 r16 fun i17=>
 sif (0+l4.length≤l4.length) <|
 zam (zaL [.sl .lent (cut 0 l4.length l4),.int .u8 i17]) fun r18=>
 za7 r18 fun l19=>
 sif (0+l8.length≤l8.length) <|
 sif (0+l19.length≤l19.length) <|
 zam (zaP [.sl .lent (cut 0 l8.length l8),.sl .lent (cut 0 l19.length l19)]) fun r20=>
 za7 r20 fun l21=>
 sif (0+l21.length≤l21.length) <|
 zam (zaL [.sl .lent (cut 0 l21.length l21),.int .u8 i15]) fun r22=>
 za7 r22 fun l23=>
 sif (0+l4.length≤l4.length) <|
 sif (0+l23.length≤l23.length) <|
 zam (zaP [.sl .lent (cut 0 l4.length l4),.sl .lent (cut 0 l23.length l23)]) fun r24=>
 za7 r24 fun l25=>
 sif (l23.length=l23.length) <|
 sif (List.all l23 D.free=true) <|
 sif (l25.length=l25.length) <|
 sif (List.all l25 D.free=true) <|
 some (.tup [.sl .own l23,.sl .own l25])
theorem zzT (zch zaP zci za4 zc1 zaL:Zp) (tga0 tga1 tga2:Tag) (a0 a1 a2:List D) (a3 a4:Int):denP Tryz.prog (zav [(ID.synd_P,(.pure [1] zch)),(ID.synd_Add,(.pure [1] zaP)),(ID.synd_Q,(.pure [1] zci)),(ID.gf_Pow,(.pure [0] za4)),(ID.gf_Inv,(.pure [0] zc1)),(ID.synd_Scale,(.pure [1] zaL))]) zpP [1,1] ID.erase_two [.sl tga0 a0,.sl tga1 a1,.sl tga2 a2,.int .i64 a3,.int .i64 a4]=zoA zch zaP zci za4 zc1 zaL (D.lentL a0) (D.lentL a1) (D.lentL a2) a3 a4:=by kernel_rfl
theorem zuv (tga0 tga1 tga2:Tag) (a0 a1 a2:List D) (a3 a4:Int):zc6 [.sl tga0 a0,.sl tga1 a1,.sl tga2 a2,.int .i64 a3,.int .i64 a4]=zoA zch zaP zci za4 zc1 zaL (D.lentL a0) (D.lentL a1) (D.lentL a2) a3 a4:=zzT zch zaP zci za4 zc1 zaL tga0 tga1 tga2 a0 a1 a2 a3 a4
def zpQ:Ann:={ loops:=[] }
noncomputable def zcP:Zp:=denP Tryz.prog (zav [(ID.synd_Q,(.pure [1] zci)),(ID.synd_Add,(.pure [1] zaP)),(ID.gf_Pow,(.pure [0] za4)),(ID.gf_Inv,(.pure [0] zc1)),(ID.synd_Scale,(.pure [1] zaL))]) zpQ [1] ID.erase_byQ
theorem ztJ:za3 Tryz.prog ID.erase_byQ (.pure [1] zcP):=zan (zax [zoz,zhv,zh9,ztH,zh8]) zbs ⟨Tryz.f138,by kernel_rfl,by kernel_rfl,by kernel_rfl⟩
noncomputable def zuw:Fact Tryz.prog:=⟨ID.erase_byQ,(.pure [1] zcP),ztJ⟩
noncomputable def zoB (zci zaP za4 zc1 zaL:Zp) (a0 a1:List D) (a2:Int):Option D:=
 zam (zci [.sl .lent a1]) fun r1=>
 za7 r1 fun l2=>
 sif (0+l2.length≤l2.length) <|
 zam (zaP [.sl .lent a0,.sl .lent (cut 0 l2.length l2)]) fun r3=>
 za7 r3 fun l4=>
 zam (za4 [.int .i64 a2]) fun r5=>
 asI .u8 r5 fun i6=>
 zam (zc1 [.int .u8 i6]) fun r7=>
 asI .u8 r7 fun i8=>
 sif (0+l4.length≤l4.length) <|
 zam (zaL [.sl .lent (cut 0 l4.length l4),.int .u8 i8]) fun r9=>
 za7 r9 fun l10=>
 sif (l10.length=l10.length) <|
 sif (List.all l10 D.free=true) <|
 some (.sl .own l10)
theorem zzU (zci zaP za4 zc1 zaL:Zp) (tga0 tga1:Tag) (a0 a1:List D) (a2:Int):denP Tryz.prog (zav [(ID.synd_Q,(.pure [1] zci)),(ID.synd_Add,(.pure [1] zaP)),(ID.gf_Pow,(.pure [0] za4)),(ID.gf_Inv,(.pure [0] zc1)),(ID.synd_Scale,(.pure [1] zaL))]) zpQ [1] ID.erase_byQ [.sl tga0 a0,.sl tga1 a1,.int .i64 a2]=zoB zci zaP za4 zc1 zaL (D.lentL a0) (D.lentL a1) a2:=by kernel_rfl
theorem zux (tga0 tga1:Tag) (a0 a1:List D) (a2:Int):zcP [.sl tga0 a0,.sl tga1 a1,.int .i64 a2]=zoB zci zaP za4 zc1 zaL (D.lentL a0) (D.lentL a1) a2:=zzU zci zaP za4 zc1 zaL tga0 tga1 a0 a1 a2
def zmn:Ann:={ loops:=[] }
noncomputable def zco:Zp:=denP Tryz.prog (zav [(ID.erase_Missing,(.pure [1] zb1)),(ID.erase_fits,(.pure [0] zcu)),(ID.erase_filled,(.pure [1] zcb)),(ID.erase_two,(.pure [1,1] zc6)),(ID.synd_P,(.pure [1] zch)),(ID.synd_Add,(.pure [1] zaP)),(ID.erase_byQ,(.pure [1] zcP))]) zmn [1,0] ID.erase_Solve
theorem zqG:za3 Tryz.prog ID.erase_Solve (.pure [1,0] zco):=zan (zax [zpH,ztC,zqD,zuu,zoy,zhv,zuw]) zbs ⟨Tryz.f103,by kernel_rfl,by kernel_rfl,by kernel_rfl⟩
noncomputable def zrN:Fact Tryz.prog:=⟨ID.erase_Solve,(.pure [1,0] zco),zqG⟩
noncomputable def zkz (zb1 zcu zcb zc6 zch zaP zcP:Zp) (a0:Int) (a1 a2 a3:List D):Option D:=
 zam (zb1 [.sl .lent a3]) fun r1=>
 za7 r1 fun l2=>
 brK (decide (a0 < 1))
  (some (.tup [.sl .own [],.bool false]))
  (brK (decide ((↑(a3.length):Int) < 1))
   (some (.tup [.sl .own [],.bool false]))
   (brK (decide ((↑(a3.length):Int) > 8))
    (some (.tup [.sl .own [],.bool false]))
    (zam (zcu [.int .i64 a0,.sl .lent a3]) fun r3=>
    asB r3 fun b4=>
    brK (!b4)
     (some (.tup [.sl .own [],.bool false]))
     (zam (zcu [.int .i64 a0,.sl .full [.sl .lent a1,.sl .lent a2]]) fun r5=>
     asB r5 fun b6=>
     brK (!b6)
      (some (.tup [.sl .own [],.bool false]))
      (sif (0+l2.length≤l2.length) <|
      zam (zb1 [.sl .full [.sl .lent a1,.sl .lent a2]]) fun r7=>
      za7 r7 fun l8=>
      sif (0+l8.length≤l8.length) <|
      letN (IntKind.i64.wrap ((↑(l2.length):Int)+(↑(l8.length):Int))) fun n9=>
      brK (decide (n9 > 2))
       (some (.tup [.sl .own [],.bool false]))
       (zam (zcb [.int .i64 a0,.sl .lent a3]) fun r10=>
       za7 r10 fun l11=>
       sif (0+l2.length≤l2.length) <|
       brK ((↑(l2.length):Int) == 2)
        (sif ((0:Nat) < l2.length) <|
        getK l2 ((0:Nat)) fun d12=>
        asI .i64 d12 fun i13=>
        sif ((1:Nat) < l2.length) <|
        getK l2 ((1:Nat)) fun d14=>
        asI .i64 d14 fun i15=>
        sif ((0:Nat) < l2.length) <|
        getK l2 ((0:Nat)) fun d16=>
        asI .i64 d16 fun i17=>
        sif ((1:Nat) < l2.length) <|
        getK l2 ((1:Nat)) fun d18=>
        asI .i64 d18 fun i19=>
        sif (0+l11.length≤l11.length) <|
        zam (zc6 [.sl .lent a1,.sl .lent a2,.sl .lent (cut 0 l11.length l11),.int .i64 i17,.int .i64 i19]) fun r20=>
        zdi r20 fun ts21=>
        zaw ([Lf.any,Lf.any]) ts21 fun c22=>
        za7 c22.1 fun l23=>
        za7 c22.2.1 fun l24=>
        sif (0≤i13) <|
        sif (i13.toNat < l11.length) <|
        sif (0+l23.length≤l23.length) <|
        getK l11 (0+i13.toNat) fun d25=>
        sif (0+l23.length≤l23.length) <|
        sif (D.isAgg d25=false) <|
        sif (0≤i15) <|
        sif (i15.toNat < l11.length) <|
        sif (0+l24.length≤l24.length) <|
        getK (List.set l11 (0+i13.toNat) (.sl .fresh (cut 0 l23.length l23))) (0+i15.toNat) fun d26=>
        sif (0+l24.length≤l24.length) <|
        sif (D.isAgg d26=false) <|
        sif (l11.length=List.length (List.set (List.set l11 (0+i13.toNat) (D.sl .fresh (cut 0 l23.length l23))) (0+i15.toNat) (D.sl .fresh (cut 0 l24.length l24)))) <|
        sif (List.all (List.set (List.set l11 (0+i13.toNat) (D.sl .fresh (cut 0 l23.length l23))) (0+i15.toNat) (D.sl .fresh (cut 0 l24.length l24))) D.free=true) <|
        some (.tup [.sl .own (List.set (List.set l11 (0+i13.toNat) (.sl .fresh (cut 0 l23.length l23))) (0+i15.toNat) (.sl .fresh (cut 0 l24.length l24))),.bool true]))
        (sif (0+l2.length≤l2.length) <|
        brK ((↑(l2.length):Int) == 1)
         (brK (decide ((↑(a1.length):Int) > 0))
          (sif ((0:Nat) < l2.length) <|
          getK l2 ((0:Nat)) fun d27=>
          asI .i64 d27 fun i28=>
          sif (0+l11.length≤l11.length) <|
          zam (zch [.sl .lent (cut 0 l11.length l11)]) fun r29=>
          za7 r29 fun l30=>
          sif (0+l30.length≤l30.length) <|
          zam (zaP [.sl .lent a1,.sl .lent (cut 0 l30.length l30)]) fun r31=>
          za7 r31 fun l32=>
          sif (0≤i28) <|
          sif (i28.toNat < l11.length) <|
          sif (0+l32.length≤l32.length) <|
          getK l11 (0+i28.toNat) fun d33=>
          sif (0+l32.length≤l32.length) <|
          sif (D.isAgg d33=false) <|
          sif (l11.length=List.length (List.set l11 (0+i28.toNat) (D.sl .fresh (cut 0 l32.length l32)))) <|
          sif (List.all (List.set l11 (0+i28.toNat) (D.sl .fresh (cut 0 l32.length l32))) D.free=true) <|
          some (.tup [.sl .own (List.set l11 (0+i28.toNat) (.sl .fresh (cut 0 l32.length l32))),.bool true]))
          (sif (0+l2.length≤l2.length) <|
          brK ((↑(l2.length):Int) == 1)
           (sif ((0:Nat) < l2.length) <|
           getK l2 ((0:Nat)) fun d34=>
           asI .i64 d34 fun i35=>
           sif ((0:Nat) < l2.length) <|
           getK l2 ((0:Nat)) fun d36=>
           asI .i64 d36 fun i37=>
           sif (0+l11.length≤l11.length) <|
           zam (zcP [.sl .lent a2,.sl .lent (cut 0 l11.length l11),.int .i64 i37]) fun r38=>
           za7 r38 fun l39=>
           sif (0≤i35) <|
           sif (i35.toNat < l11.length) <|
           sif (0+l39.length≤l39.length) <|
           getK l11 (0+i35.toNat) fun d40=>
           sif (0+l39.length≤l39.length) <|
           sif (D.isAgg d40=false) <|
           sif (l11.length=List.length (List.set l11 (0+i35.toNat) (D.sl .fresh (cut 0 l39.length l39)))) <|
           sif (List.all (List.set l11 (0+i35.toNat) (D.sl .fresh (cut 0 l39.length l39))) D.free=true) <|
           some (.tup [.sl .own (List.set l11 (0+i35.toNat) (.sl .fresh (cut 0 l39.length l39))),.bool true]))
           (sif (l11.length=l11.length) <|
           sif (List.all l11 D.free=true) <|
           some (.tup [.sl .own l11,.bool true]))))
         (sif (0+l2.length≤l2.length) <|
         brK ((↑(l2.length):Int) == 1)
          (sif ((0:Nat) < l2.length) <|
          getK l2 ((0:Nat)) fun d41=>
          asI .i64 d41 fun i42=>
          sif ((0:Nat) < l2.length) <|
          getK l2 ((0:Nat)) fun d43=>
          asI .i64 d43 fun i44=>
          sif (0+l11.length≤l11.length) <|
          zam (zcP [.sl .lent a2,.sl .lent (cut 0 l11.length l11),.int .i64 i44]) fun r45=>
          za7 r45 fun l46=>
          sif (0≤i42) <|
          sif (i42.toNat < l11.length) <|
          sif (0+l46.length≤l46.length) <|
          getK l11 (0+i42.toNat) fun d47=>
          sif (0+l46.length≤l46.length) <|
          sif (D.isAgg d47=false) <|
          sif (l11.length=List.length (List.set l11 (0+i42.toNat) (D.sl .fresh (cut 0 l46.length l46)))) <|
          sif (List.all (List.set l11 (0+i42.toNat) (D.sl .fresh (cut 0 l46.length l46))) D.free=true) <|
          some (.tup [.sl .own (List.set l11 (0+i42.toNat) (.sl .fresh (cut 0 l46.length l46))),.bool true]))
          (sif (l11.length=l11.length) <|
          sif (List.all l11 D.free=true) <|
          some (.tup [.sl .own l11,.bool true]))))))))))
theorem zwT (zb1 zcu zcb zc6 zch zaP zcP:Zp) (tga1 tga2 tga3:Tag) (a0:Int) (a1 a2 a3:List D):denP Tryz.prog (zav [(ID.erase_Missing,(.pure [1] zb1)),(ID.erase_fits,(.pure [0] zcu)),(ID.erase_filled,(.pure [1] zcb)),(ID.erase_two,(.pure [1,1] zc6)),(ID.synd_P,(.pure [1] zch)),(ID.synd_Add,(.pure [1] zaP)),(ID.erase_byQ,(.pure [1] zcP))]) zmn [1,0] ID.erase_Solve [.int .i64 a0,.sl tga1 a1,.sl tga2 a2,.sl tga3 a3]=zkz zb1 zcu zcb zc6 zch zaP zcP a0 (D.lentL a1) (D.lentL a2) (D.lentL a3):=by kernel_rfl
theorem zrO (tga1 tga2 tga3:Tag) (a0:Int) (a1 a2 a3:List D):zco [.int .i64 a0,.sl tga1 a1,.sl tga2 a2,.sl tga3 a3]=zkz zb1 zcu zcb zc6 zch zaP zcP a0 (D.lentL a1) (D.lentL a2) (D.lentL a3):=zwT zb1 zcu zcb zc6 zch zaP zcP tga1 tga2 tga3 a0 a1 a2 a3
def zrr:Ann:={ loops:=[(1,.dead::.val (.cell (.int .i64))::.val (.cell .lent)::.box true [(.int .i64),(.int .i64),(.int .i64)]::dd 4 (.own 1::dd 15 [.val (.cell (.int .i64)),.val (.cell (.int .i64))]))] }
noncomputable def zdw:Zp:=denP Tryz.prog (zav [(ID.row_in,(.pure [0] zc0)),(ID.geom_Width,(.pure [0] zaf)),(ID.place_Disk,(.pure [0] za1)),(ID.place_Parity,(.pure [0,0] zaN)),(ID.erase_Solve,(.pure [1,0] zco))]) zrr [1,0] ID.row_Take
theorem zuy:za3 Tryz.prog ID.row_Take (.pure [1,0] zdw):=zan (zax [ztz,zcH,zh2,zgl,zrN]) zbs ⟨Tryz.f55,by kernel_rfl,by kernel_rfl,by kernel_rfl⟩
noncomputable def zwU:Fact Tryz.prog:=⟨ID.row_Take,(.pure [1,0] zdw),zuy⟩
noncomputable def zqH (zc0 zaf za1 zaN zco:Zp) (a0_0 a0_1 a0_2 a1:Int) (a2:List D):Option D:=
 zam (zc0 [.agg [.int .i64 a0_0,.int .i64 a0_1,.int .i64 a0_2],.int .i64 a1]) fun r1=>
 asB r1 fun b2=>
 brK (!b2)
  (some (.tup [.sl .own [],.bool false]))
  (brK ((↑(a2.length):Int) != a0_1)
   (some (.tup [.sl .own [],.bool false]))
   (zam (zaf [.agg [.int .i64 a0_0,.int .i64 a0_1,.int .i64 a0_2]]) fun r3=>
   asI .i64 r3 fun i4=>
   zca (α:=(Int×List D×(Int×Int×Int×PUnit)×List D×Int×Int×PUnit)×PUnit) (fun again5 ((i6,(l7,((i8,(i9,(i10,_))),(l11,(i12,(i13,_)))))),_)=>
    brK (decide (i13 < i12))
     (zam (za1 [.agg [.int .i64 i8,.int .i64 i9,.int .i64 i10],.int .i64 i6,.int .i64 i13]) fun r14=>
     asI .i64 r14 fun i15=>
     sif (0≤i15) <|
     getK l7 (i15.toNat) fun d16=>
     asSl d16 fun t17 l18=>
     sif (l11.length+1≤4294967296) <|
     sif (l11.length=l11.length) <|
     letN (IntKind.i64.wrap (i13+1)) fun n19=>
     sif (l11.length+1=List.length (l11++[D.sl t17 l18])) <|
     again5 (((i6,l7,(i8,i9,i10,unit),l11++[.sl t17 l18],i12,n19,unit),unit)))
     (zam (zaN [.agg [.int .i64 i8,.int .i64 i9,.int .i64 i10],.int .i64 i6]) fun r20=>
     zdi r20 fun ts21=>
     zaw ([Lf.any,Lf.any]) ts21 fun c22=>
     asI .i64 c22.1 fun i23=>
     asI .i64 c22.2.1 fun i24=>
     brK (decide (i24 < 0))
      (sif (0≤i23) <|
      getK l7 (i23.toNat) fun d25=>
      asSl d25 fun t26 l27=>
      sif (0+l11.length≤l11.length) <|
      zam (zco [.int .i64 32,.sl t26 l27,.sl .nil [],.sl .lent (cut 0 l11.length l11)]) fun r28=>
      zdi r28 fun ts29=>
      zaw ([Lf.any,Lf.any]) ts29 fun c30=>
      za7 c30.1 fun l31=>
      asB c30.2.1 fun b32=>
      sif (l31.length=l31.length) <|
      sif (List.all l31 D.free=true) <|
      some (.tup [.sl .own l31,.bool b32]))
      (sif (0≤i23) <|
      getK l7 (i23.toNat) fun d33=>
      asSl d33 fun t34 l35=>
      sif (0≤i24) <|
      getK l7 (i24.toNat) fun d36=>
      asSl d36 fun t37 l38=>
      sif (0+l11.length≤l11.length) <|
      zam (zco [.int .i64 32,.sl t34 l35,.sl t37 l38,.sl .lent (cut 0 l11.length l11)]) fun r39=>
      zdi r39 fun ts40=>
      zaw ([Lf.any,Lf.any]) ts40 fun c41=>
      za7 c41.1 fun l42=>
      asB c41.2.1 fun b43=>
      sif (l42.length=l42.length) <|
      sif (List.all l42 D.free=true) <|
      some (.tup [.sl .own l42,.bool b43]))))
    (((a1,a2,(a0_0,a0_1,a0_2,unit),[],i4,(0:Int),unit),unit))))
theorem zBW (zc0 zaf za1 zaN zco:Zp) (tga2:Tag) (a0_0 a0_1 a0_2 a1:Int) (a2:List D):denP Tryz.prog (zav [(ID.row_in,(.pure [0] zc0)),(ID.geom_Width,(.pure [0] zaf)),(ID.place_Disk,(.pure [0] za1)),(ID.place_Parity,(.pure [0,0] zaN)),(ID.erase_Solve,(.pure [1,0] zco))]) zrr [1,0] ID.row_Take [.agg [.int .i64 a0_0,.int .i64 a0_1,.int .i64 a0_2],.int .i64 a1,.sl tga2 a2]=zqH zc0 zaf za1 zaN zco a0_0 a0_1 a0_2 a1 (D.lentL a2):=by kernel_rfl
theorem zwV (tga2:Tag) (a0_0 a0_1 a0_2 a1:Int) (a2:List D):zdw [.agg [.int .i64 a0_0,.int .i64 a0_1,.int .i64 a0_2],.int .i64 a1,.sl tga2 a2]=zqH zc0 zaf za1 zaN zco a0_0 a0_1 a0_2 a1 (D.lentL a2):=zBW zc0 zaf za1 zaN zco tga2 a0_0 a0_1 a0_2 a1 a2
def zmo:Ann:={ loops:=[(1,.val (.cell (.hnd (2496:Nat)))::.val (.cell .lent)::.dead::.val (.cell (.int .i64))::dd 2 (.box true [(.int .i64),(.int .i64),(.int .i64)]::dd 3 (.own 1::dd 20 [.val (.cell (.int .i64)),.val (.cell (.int .i64))])))],ks:=[(2496,false),(8225,false)] }
noncomputable def zcp:Zs:=denS Tryz.prog (zav [(ID.geom_Check,(.pure [0] zao)),(ID.stripe_up,(.st [] [0] [(2496,false),(8225,false)] zaV)),(ID.bench_Bench_Read,(.st [] [1,0] [(2496,false),(8225,false)] zaO)),(ID.row_Take,(.pure [1,0] zdw))]) zmo [1,0] ID.stripe_Read
theorem zqI:za3 Tryz.prog ID.stripe_Read (.st [] [1,0] [(2496,false),(8225,false)] zcp):=zbg (zax [zdP,zgy,zgP,zwU]) zbs ⟨Tryz.f37,by kernel_rfl,by kernel_rfl,by kernel_rfl⟩
noncomputable def zrP:Fact Tryz.prog:=⟨ID.stripe_Read,(.st [] [1,0] [(2496,false),(8225,false)] zcp),zqI⟩
noncomputable def zkA (zao:Zp) (zaV zaO:Zs) (zdw:Zp) (a0:Nat) (a1:List D) (a2_0 a2_1 a2_2 a3:Int) (T0 T1:Tb):Option Ans:=
 zam (zao [.agg [.int .i64 a2_0,.int .i64 a2_1,.int .i64 a2_2]]) fun r1=>
 asI .i64 r1 fun i2=>
 brK (i2 != 0)
  (some (Ans.mk (.tup [.sl .own [],.int .i64 1]) [] []))
  (brK (decide (a3 < 0))
   (some (Ans.mk (.tup [.sl .own [],.int .i64 1]) [] []))
   (brK (decide (a3≥16))
    (some (Ans.mk (.tup [.sl .own [],.int .i64 1]) [] []))
    (sif (0≤a2_1) <|
    sif (a2_1=a2_1) <|
    sif (a2_1*24≤140737488355328) <|
    sif (a2_1≤140737488355328) <|
    sif (0+a2_1.toNat≤List.length (List.replicate (a2_1.toNat) (D.sl .nil []))) <|
    sif (a2_1.toNat=List.length (List.replicate (a2_1.toNat) (D.sl .nil []))) <|
    zca (α:=(Nat×List D×Int×(Int×Int×Int×PUnit)×List D×Int×Int×PUnit)×List (List D)×List (List D)×PUnit) (fun again3 ((x4,(l5,(i6,((i7,(i8,(i9,_))),(l10,(i11,(i12,_))))))),(U13,(U14,_)))=>
     brK (decide (i12 < i11))
      (zam (zaV [.h (2496) x4 (0:Nat),.sl .lent l5,.int .i64 i12] [U13,U14]) fun r15=>
      nilK r15.outs <|
      nilK r15.tbs <|
      asB r15.r fun b16=>
      brK (!b16)
       (letN (IntKind.i64.wrap (i12+1)) fun n17=>
       sif (l10.length=l10.length) <|
       again3 (((x4,l5,i6,(i7,i8,i9,unit),l10,i11,n17,unit),U13,U14,unit)))
       (letN (IntKind.i64.wrap (36+i6)) fun n18=>
       zam (zaO [.h (2496) x4 (0:Nat),.int .i64 i12,.int .i64 n18] [U13,U14]) fun r19=>
       nilK r19.outs <|
       nilK r19.tbs <|
       zdi r19.r fun ts20=>
       zaw ([Lf.any,Lf.any]) ts20 fun c21=>
       za7 c21.1 fun l22=>
       asI .i64 c21.2.1 fun i23=>
       brK (i23 != 0)
        (some (Ans.mk (.tup [.sl .own [],.int .i64 i23]) [] []))
        (sif (0≤i12) <|
        sif (i12.toNat < l10.length) <|
        sif (0+l22.length≤l22.length) <|
        getK l10 (0+i12.toNat) fun d24=>
        sif (0+l22.length≤l22.length) <|
        sif (D.isAgg d24=false) <|
        letN (IntKind.i64.wrap (i12+1)) fun n25=>
        sif (l10.length=List.length (List.set l10 (0+i12.toNat) (D.sl .fresh (cut 0 l22.length l22)))) <|
        again3 (((x4,l5,i6,(i7,i8,i9,unit),List.set l10 (0+i12.toNat) (.sl .fresh (cut 0 l22.length l22)),i11,n25,unit),U13,U14,unit)))))
      (sif (0+l10.length≤l10.length) <|
      zam (zdw [.agg [.int .i64 i7,.int .i64 i8,.int .i64 i9],.int .i64 i6,.sl .lent (cut 0 l10.length l10)]) fun r26=>
      zdi r26 fun ts27=>
      zaw ([Lf.any,Lf.any]) ts27 fun c28=>
      za7 c28.1 fun l29=>
      asB c28.2.1 fun b30=>
      brK (!b30)
       (some (Ans.mk (.tup [.sl .own [],.int .i64 7]) [] []))
       (sif (l29.length=l29.length) <|
       sif (List.all l29 D.free=true) <|
       some (Ans.mk (.tup [.sl .own l29,.int .i64 0]) [] []))))
     (((a0,a1,a3,(a2_0,a2_1,a2_2,unit),List.replicate (a2_1.toNat) (.sl .nil []),(↑(a2_1.toNat):Int),(0:Int),unit),T0,T1,unit)))))
theorem zwW (zao:Zp) (zaV zaO:Zs) (zdw:Zp) (tga1:Tag) (a0:Nat) (a1:List D) (a2_0 a2_1 a2_2 a3:Int) (T0 T1:Tb):denS Tryz.prog (zav [(ID.geom_Check,(.pure [0] zao)),(ID.stripe_up,(.st [] [0] [(2496,false),(8225,false)] zaV)),(ID.bench_Bench_Read,(.st [] [1,0] [(2496,false),(8225,false)] zaO)),(ID.row_Take,(.pure [1,0] zdw))]) zmo [1,0] ID.stripe_Read [.h 2496 a0 0,.sl tga1 a1,.agg [.int .i64 a2_0,.int .i64 a2_1,.int .i64 a2_2],.int .i64 a3] [T0,T1]=zkA zao zaV zaO zdw a0 (D.lentL a1) a2_0 a2_1 a2_2 a3 T0 T1:=by kernel_rfl
theorem zrQ (tga1:Tag) (a0:Nat) (a1:List D) (a2_0 a2_1 a2_2 a3:Int) (T0 T1:Tb):zcp [.h 2496 a0 0,.sl tga1 a1,.agg [.int .i64 a2_0,.int .i64 a2_1,.int .i64 a2_2],.int .i64 a3] [T0,T1]=zkA zao zaV zaO zdw a0 (D.lentL a1) a2_0 a2_1 a2_2 a3 T0 T1:=zwW zao zaV zaO zdw tga1 a0 a1 a2_0 a2_1 a2_2 a3 T0 T1
def zkT:Ann:={ loops:=[] }
noncomputable def zcl:Zp:=denP Tryz.prog (zav [(ID.geom_Width,(.pure [0] zaf))]) zkT [0] ID.place_number
theorem zpR:za3 Tryz.prog ID.place_number (.pure [0] zcl):=zan (zax [zcH]) zbs ⟨Tryz.f112,by kernel_rfl,by kernel_rfl,by kernel_rfl⟩
noncomputable def zqJ:Fact Tryz.prog:=⟨ID.place_number,(.pure [0] zcl),zpR⟩
noncomputable def ziY (zaf:Zp) (a0_0 a0_1 a0_2 a1 a2:Int):Option D:=
 sif (a0_2≠0) <|
 letN (IntKind.i64.wrap (Int.tdiv a1 a0_2)) fun n1=>
 zam (zaf [.agg [.int .i64 a0_0,.int .i64 a0_1,.int .i64 a0_2]]) fun r2=>
 asI .i64 r2 fun i3=>
 letN (IntKind.i64.wrap (n1*i3)) fun n4=>
 letN (IntKind.i64.wrap (n4+a2)) fun n5=>
 letN (IntKind.i64.wrap (n5*a0_2)) fun n6=>
 sif (a0_2≠0) <|
 letN (Int.tmod a1 a0_2) fun n7=>
 letN (IntKind.i64.wrap (n6+n7)) fun n8=>
 some (.int .i64 n8)
theorem zuz (zaf:Zp) (a0_0 a0_1 a0_2 a1 a2:Int):denP Tryz.prog (zav [(ID.geom_Width,(.pure [0] zaf))]) zkT [0] ID.place_number [.agg [.int .i64 a0_0,.int .i64 a0_1,.int .i64 a0_2],.int .i64 a1,.int .i64 a2]=ziY zaf a0_0 a0_1 a0_2 a1 a2:=by kernel_rfl
theorem zqK (a0_0 a0_1 a0_2 a1 a2:Int):zcl [.agg [.int .i64 a0_0,.int .i64 a0_1,.int .i64 a0_2],.int .i64 a1,.int .i64 a2]=ziY zaf a0_0 a0_1 a0_2 a1 a2:=zuz zaf a0_0 a0_1 a0_2 a1 a2
def zjJ:Ann:={ loops:=[(1,.dead::.val (.cell (.int .i64))::.box true [(.int .i64),(.int .i64),(.int .i64)]::dd 2 (.own 1::dd 6 [.val (.cell (.int .i64)),.val (.cell (.int .i64))]))] }
noncomputable def za5:Zp:=denP Tryz.prog (zav [(ID.place_in,(.pure [0] zbD)),(ID.geom_Width,(.pure [0] zaf)),(ID.place_number,(.pure [0] zcl))]) zjJ [1] ID.place_Numbers
theorem zoC:za3 Tryz.prog ID.place_Numbers (.pure [1] za5):=zan (zax [zku,zcH,zqJ]) zbs ⟨Tryz.f65,by kernel_rfl,by kernel_rfl,by kernel_rfl⟩
noncomputable def ziG:Fact Tryz.prog:=⟨ID.place_Numbers,(.pure [1] za5),zoC⟩
noncomputable def zia (zbD zaf zcl:Zp) (a0_0 a0_1 a0_2 a1:Int):Option D:=
 zam (zbD [.agg [.int .i64 a0_0,.int .i64 a0_1,.int .i64 a0_2],.int .i64 a1]) fun r1=>
 asB r1 fun b2=>
 brK (!b2)
  (some (.sl .own []))
  (zam (zaf [.agg [.int .i64 a0_0,.int .i64 a0_1,.int .i64 a0_2]]) fun r3=>
  asI .i64 r3 fun i4=>
  zca (α:=(Int×(Int×Int×Int×PUnit)×List D×Int×Int×PUnit)×PUnit) (fun again5 ((i6,((i7,(i8,(i9,_))),(l10,(i11,(i12,_))))),_)=>
   brK (decide (i12 < i11))
    (zam (zcl [.agg [.int .i64 i7,.int .i64 i8,.int .i64 i9],.int .i64 i6,.int .i64 i12]) fun r13=>
    asI .i64 r13 fun i14=>
    sif (l10.length+1≤4294967296) <|
    sif (l10.length=l10.length) <|
    letN (IntKind.i64.wrap (i12+1)) fun n15=>
    sif (l10.length+1=List.length (l10++[D.int .i64 i14])) <|
    again5 (((i6,(i7,i8,i9,unit),l10++[.int .i64 i14],i11,n15,unit),unit)))
    (sif (l10.length=l10.length) <|
    sif (List.all l10 D.free=true) <|
    some (.sl .own l10)))
   (((a1,(a0_0,a0_1,a0_2,unit),[],i4,(0:Int),unit),unit)))
theorem ztK (zbD zaf zcl:Zp) (a0_0 a0_1 a0_2 a1:Int):denP Tryz.prog (zav [(ID.place_in,(.pure [0] zbD)),(ID.geom_Width,(.pure [0] zaf)),(ID.place_number,(.pure [0] zcl))]) zjJ [1] ID.place_Numbers [.agg [.int .i64 a0_0,.int .i64 a0_1,.int .i64 a0_2],.int .i64 a1]=zia zbD zaf zcl a0_0 a0_1 a0_2 a1:=by kernel_rfl
theorem zpS (a0_0 a0_1 a0_2 a1:Int):za5 [.agg [.int .i64 a0_0,.int .i64 a0_1,.int .i64 a0_2],.int .i64 a1]=zia zbD zaf zcl a0_0 a0_1 a0_2 a1:=ztK zbD zaf zcl a0_0 a0_1 a0_2 a1
def znP:Ann:={ loops:=[(3,dd 3 (.val (.cell (.int .i64))::dd 9 (.own 1::dd 36 [.own 1,.val (.cell (.int .i64)),.val (.cell (.int .i64))])))],ks:=[(2496,false),(8225,false)] }
noncomputable def zcK:Zs:=denS Tryz.prog (zav [(ID.place_Of,(.pure [0,0,0] zdg)),(ID.stripe_up,(.st [] [0] [(2496,false),(8225,false)] zaV)),(ID.bench_Bench_Read,(.st [] [1,0] [(2496,false),(8225,false)] zaO)),(ID.stripe_Read,(.st [] [1,0] [(2496,false),(8225,false)] zcp)),(ID.place_Numbers,(.pure [1] za5))]) znP [0,0] ID.stripe_One
theorem zrR:za3 Tryz.prog ID.stripe_One (.st [] [0,0] [(2496,false),(8225,false)] zcK):=zbg (zax [zwH,zgy,zgP,zrP,ziG]) zbs ⟨Tryz.f28,by kernel_rfl,by kernel_rfl,by kernel_rfl⟩
noncomputable def ztL:Fact Tryz.prog:=⟨ID.stripe_One,(.st [] [0,0] [(2496,false),(8225,false)] zcK),zrR⟩
noncomputable def zmp (zdg:Zp) (zaV zaO zcp:Zs) (za5:Zp) (a0:Nat) (a1:List D) (a2_0 a2_1 a2_2 a3:Int) (T0 T1:Tb):Option Ans:=
 zam (zdg [.agg [.int .i64 a2_0,.int .i64 a2_1,.int .i64 a2_2],.int .i64 a3]) fun r1=>
 zdi r1 fun ts2=>
 zaw ([Lf.any,Lf.any,Lf.any]) ts2 fun c3=>
 asI .i64 c3.1 fun i4=>
 asI .i64 c3.2.1 fun i5=>
 asB c3.2.2.1 fun b6=>
 brK (!b6)
  (some (Ans.mk (.tup [.sl .nil [],.int .i64 4]) [] []))
  (zam (zaV [.h 2496 a0 0,.sl .lent a1,.int .i64 i4] [T0,T1]) fun r7=>
  nilK r7.outs <|
  nilK r7.tbs <|
  asB r7.r fun b8=>
  brK b8
   (letN (IntKind.i64.wrap (36+i5)) fun n9=>
   zam (zaO [.h 2496 a0 0,.int .i64 i4,.int .i64 n9] [T0,T1]) fun r10=>
   nilK r10.outs <|
   nilK r10.tbs <|
   zdi r10.r fun ts11=>
   zaw ([Lf.any,Lf.any]) ts11 fun c12=>
   za7 c12.1 fun l13=>
   asI .i64 c12.2.1 fun i14=>
   sif (0+l13.length≤l13.length) <|
   sif (D.free (D.sl .fresh (cut 0 l13.length l13))=true) <|
   some (Ans.mk (.tup [.sl .fresh (cut 0 l13.length l13),.int .i64 i14]) [] []))
   (zam (zcp [.h 2496 a0 0,.sl .lent a1,.agg [.int .i64 a2_0,.int .i64 a2_1,.int .i64 a2_2],.int .i64 i5] [T0,T1]) fun r15=>
   nilK r15.outs <|
   nilK r15.tbs <|
   zdi r15.r fun ts16=>
   zaw ([Lf.any,Lf.any]) ts16 fun c17=>
   za7 c17.1 fun l18=>
   asI .i64 c17.2.1 fun i19=>
   brK (i19 != 0)
    (some (Ans.mk (.tup [.sl .nil [],.int .i64 i19]) [] []))
    (zam (za5 [.agg [.int .i64 a2_0,.int .i64 a2_1,.int .i64 a2_2],.int .i64 i5]) fun r20=>
    za7 r20 fun l21=>
    sif (0+l21.length≤l21.length) <|
    sif (l18.length=l18.length) <|
    sif (l21.length=l21.length) <|
    zca (α:=(Int×List D×List D×Int×Int×PUnit)×List (List D)×List (List D)×PUnit) (fun again22 ((i23,(l24,(l25,(i26,(i27,_))))),(U28,(U29,_)))=>
     brK (decide (i27 < i26))
      (sif (0≤i27) <|
      sif (i27.toNat < l25.length) <|
      getK l25 (0+i27.toNat) fun d30=>
      asI .i64 d30 fun i31=>
      brK (i31 == i23)
       (sif (0≤i27) <|
       sif (i27.toNat < l24.length) <|
       getK l24 (0+i27.toNat) fun d32=>
       asSl d32 fun t33 l34=>
       sif (D.free (D.sl t33 l34)=true) <|
       some (Ans.mk (.tup [.sl t33 l34,.int .i64 0]) [] []))
       (letN (IntKind.i64.wrap (i27+1)) fun n35=>
       sif (l24.length=l24.length) <|
       sif (l25.length=l25.length) <|
       again22 (((i23,l24,l25,i26,n35,unit),U28,U29,unit))))
      (some (Ans.mk (.tup [.sl .nil [],.int .i64 4]) [] [])))
     (((a3,l18,l21,(↑(l21.length):Int),(0:Int),unit),T0,T1,unit)))))
theorem zyz (zdg:Zp) (zaV zaO zcp:Zs) (za5:Zp) (tga1:Tag) (a0:Nat) (a1:List D) (a2_0 a2_1 a2_2 a3:Int) (T0 T1:Tb):denS Tryz.prog (zav [(ID.place_Of,(.pure [0,0,0] zdg)),(ID.stripe_up,(.st [] [0] [(2496,false),(8225,false)] zaV)),(ID.bench_Bench_Read,(.st [] [1,0] [(2496,false),(8225,false)] zaO)),(ID.stripe_Read,(.st [] [1,0] [(2496,false),(8225,false)] zcp)),(ID.place_Numbers,(.pure [1] za5))]) znP [0,0] ID.stripe_One [.h 2496 a0 0,.sl tga1 a1,.agg [.int .i64 a2_0,.int .i64 a2_1,.int .i64 a2_2],.int .i64 a3] [T0,T1]=zmp zdg zaV zaO zcp za5 a0 (D.lentL a1) a2_0 a2_1 a2_2 a3 T0 T1:=by kernel_rfl
theorem ztM (tga1:Tag) (a0:Nat) (a1:List D) (a2_0 a2_1 a2_2 a3:Int) (T0 T1:Tb):zcK [.h 2496 a0 0,.sl tga1 a1,.agg [.int .i64 a2_0,.int .i64 a2_1,.int .i64 a2_2],.int .i64 a3] [T0,T1]=zmp zdg zaV zaO zcp za5 a0 (D.lentL a1) a2_0 a2_1 a2_2 a3 T0 T1:=zyz zdg zaV zaO zcp za5 tga1 a0 a1 a2_0 a2_1 a2_2 a3 T0 T1
def zmq:Ann:={ loops:=[(1,.val (.cell (.hnd (2496:Nat)))::.val (.cell .lent)::dd 5 (.box true [(.int .i64),(.int .i64),(.int .i64)]::dd 4 [.own 1,.dead,.val (.cell (.int .i64)),.val (.cell (.int .i64))]))],ks:=[(2496,false),(8225,false)] }
noncomputable def za6:Zs:=denS Tryz.prog (zav [(ID.window_may,(.pure [0] zbP)),(ID.plan_Span,(.pure [0,0] zb2)),(ID.geom_Capacity,(.pure [0] zaZ)),(ID.stripe_One,(.st [] [0,0] [(2496,false),(8225,false)] zcK))]) zmq [1,0] ID.window_Read
theorem zqL:za3 Tryz.prog ID.window_Read (.st [] [1,0] [(2496,false),(8225,false)] za6):=zbg (zax [zmb,znL,ziE,ztL]) zbs ⟨Tryz.f40,by kernel_rfl,by kernel_rfl,by kernel_rfl⟩
noncomputable def zkU:Fact Tryz.prog:=⟨ID.window_Read,(.st [] [1,0] [(2496,false),(8225,false)] za6),zqL⟩
noncomputable def zkB (zbP zb2 zaZ:Zp) (zcK:Zs) (a0:Nat) (a1:List D) (a2_0 a2_1 a2_2 a3_0 a3_1 a3_2 a4:Int) (T0 T1:Tb):Option Ans:=
 zam (zbP [.agg [.int .i64 a2_0,.int .i64 a2_1,.int .i64 a2_2],.agg [.int .i64 a3_0,.int .i64 a3_1,.int .i64 a3_2],.int .i64 a4]) fun r1=>
 asB r1 fun b2=>
 brK (!b2)
  (some (Ans.mk (.tup [.sl .own [],.int .i64 1]) [] []))
  (zam (zb2 [.agg [.int .i64 a2_0,.int .i64 a2_1,.int .i64 a2_2],.agg [.int .i64 a3_0,.int .i64 a3_1,.int .i64 a3_2],.int .i64 a4]) fun r3=>
  zdi r3 fun ts4=>
  zaw ([Lf.any,Lf.any]) ts4 fun c5=>
  asI .i64 c5.1 fun i6=>
  asI .i64 c5.2.1 fun i7=>
  zca (α:=(Nat×List D×(Int×Int×Int×PUnit)×List D×Int×Int×PUnit)×List (List D)×List (List D)×PUnit) (fun again8 ((x9,(l10,((i11,(i12,(i13,_))),(l14,(i15,(i16,_)))))),(U17,(U18,_)))=>
   brK (decide (i16 < i15))
    (zam (zaZ [.agg [.int .i64 i11,.int .i64 i12,.int .i64 i13]]) fun r19=>
    asI .i64 r19 fun i20=>
    brK (decide (i16≥i20))
     (sif (l14.length+1≤4294967296) <|
     sif (l14.length=l14.length) <|
     letN (IntKind.i64.wrap (i16+1)) fun n21=>
     sif (l14.length+1=List.length (l14++[D.sl .fresh [D.int .u8 0,D.int .u8 0,D.int .u8 0,D.int .u8 0,D.int .u8 0,D.int .u8 0,D.int .u8 0,D.int .u8 0,D.int .u8 0,D.int .u8 0,D.int .u8 0,D.int .u8 0,D.int .u8 0,D.int .u8 0,D.int .u8 0,D.int .u8 0,D.int .u8 0,D.int .u8 0,D.int .u8 0,D.int .u8 0,D.int .u8 0,D.int .u8 0,D.int .u8 0,D.int .u8 0,D.int .u8 0,D.int .u8 0,D.int .u8 0,D.int .u8 0,D.int .u8 0,D.int .u8 0,D.int .u8 0,D.int .u8 0]])) <|
     again8 (((x9,l10,(i11,i12,i13,unit),l14++[.sl .fresh [.int .u8 0,.int .u8 0,.int .u8 0,.int .u8 0,.int .u8 0,.int .u8 0,.int .u8 0,.int .u8 0,.int .u8 0,.int .u8 0,.int .u8 0,.int .u8 0,.int .u8 0,.int .u8 0,.int .u8 0,.int .u8 0,.int .u8 0,.int .u8 0,.int .u8 0,.int .u8 0,.int .u8 0,.int .u8 0,.int .u8 0,.int .u8 0,.int .u8 0,.int .u8 0,.int .u8 0,.int .u8 0,.int .u8 0,.int .u8 0,.int .u8 0,.int .u8 0]],i15,n21,unit),U17,U18,unit)))
     (zam (zcK [.h (2496) x9 (0:Nat),.sl .lent l10,.agg [.int .i64 i11,.int .i64 i12,.int .i64 i13],.int .i64 i16] [U17,U18]) fun r22=>
     nilK r22.outs <|
     nilK r22.tbs <|
     zdi r22.r fun ts23=>
     zaw ([Lf.any,Lf.any]) ts23 fun c24=>
     asSl c24.1 fun t25 l26=>
     sif (zhO (D.sl t25 l26)=true) <|
     asI .i64 c24.2.1 fun i27=>
     brK (i27 != 0)
      (some (Ans.mk (.tup [.sl .own [],.int .i64 i27]) [] []))
      (sif (l14.length+1≤4294967296) <|
      sif (l14.length=l14.length) <|
      letN (IntKind.i64.wrap (i16+1)) fun n28=>
      sif (l14.length+1=List.length (l14++[D.sl t25 l26])) <|
      again8 (((x9,l10,(i11,i12,i13,unit),l14++[.sl t25 l26],i15,n28,unit),U17,U18,unit)))))
    (sif (l14.length=l14.length) <|
    sif (List.all l14 D.free=true) <|
    some (Ans.mk (.tup [.sl .own l14,.int .i64 0]) [] [])))
   (((a0,a1,(a2_0,a2_1,a2_2,unit),[],i7,i6,unit),T0,T1,unit)))
theorem zwX (zbP zb2 zaZ:Zp) (zcK:Zs) (tga1:Tag) (a0:Nat) (a1:List D) (a2_0 a2_1 a2_2 a3_0 a3_1 a3_2 a4:Int) (T0 T1:Tb):denS Tryz.prog (zav [(ID.window_may,(.pure [0] zbP)),(ID.plan_Span,(.pure [0,0] zb2)),(ID.geom_Capacity,(.pure [0] zaZ)),(ID.stripe_One,(.st [] [0,0] [(2496,false),(8225,false)] zcK))]) zmq [1,0] ID.window_Read [.h 2496 a0 0,.sl tga1 a1,.agg [.int .i64 a2_0,.int .i64 a2_1,.int .i64 a2_2],.agg [.int .i64 a3_0,.int .i64 a3_1,.int .i64 a3_2],.int .i64 a4] [T0,T1]=zkB zbP zb2 zaZ zcK a0 (D.lentL a1) a2_0 a2_1 a2_2 a3_0 a3_1 a3_2 a4 T0 T1:=by kernel_rfl
theorem zrS (tga1:Tag) (a0:Nat) (a1:List D) (a2_0 a2_1 a2_2 a3_0 a3_1 a3_2 a4:Int) (T0 T1:Tb):za6 [.h 2496 a0 0,.sl tga1 a1,.agg [.int .i64 a2_0,.int .i64 a2_1,.int .i64 a2_2],.agg [.int .i64 a3_0,.int .i64 a3_1,.int .i64 a3_2],.int .i64 a4] [T0,T1]=zkB zbP zb2 zaZ zcK a0 (D.lentL a1) a2_0 a2_1 a2_2 a3_0 a3_1 a3_2 a4 T0 T1:=zwX zbP zb2 zaZ zcK tga1 a0 a1 a2_0 a2_1 a2_2 a3_0 a3_1 a3_2 a4 T0 T1
def zmr:Ann:={ loops:=[] }
noncomputable def zcy:Zp:=denP Tryz.prog (zav [(ID.slices_ContainsFunc_byte_byte,(.pure [0] zai)),(ID.row_sectors_1,(.pure [0] zau))]) zmr [0] ID.row_sectors
theorem zqM:za3 Tryz.prog ID.row_sectors (.pure [0] zcy):=zan (zax [zdq,zfN]) zbs ⟨Tryz.f104,by kernel_rfl,by kernel_rfl,by kernel_rfl⟩
noncomputable def zrT:Fact Tryz.prog:=⟨ID.row_sectors,(.pure [0] zcy),zqM⟩
noncomputable def zkC (zai zau:Zp) (a0:List D):Option D:=
 zam (zai [.sl .lent a0,.fn (139:Nat) [] []]) fun r1=>
 asB r1 fun b2=>
 some (.bool !b2)
theorem zwY (zai zau:Zp) (tga0:Tag) (a0:List D):denP Tryz.prog (zav [(ID.slices_ContainsFunc_byte_byte,(.pure [0] zai)),(ID.row_sectors_1,(.pure [0] zau))]) zmr [0] ID.row_sectors [.sl tga0 a0]=zkC zai zau (D.lentL a0):=by kernel_rfl
theorem zrU (tga0:Tag) (a0:List D):zcy [.sl tga0 a0]=zkC zai zau (D.lentL a0):=zwY zai zau tga0 a0
def zrs:Ann:={ loops:=[(1,.dead::.val (.cell (.int .i64))::.val (.cell .lent)::.box true [(.int .i64),(.int .i64),(.int .i64)]::dd 4 (.own 1::dd 23 [.val (.cell .lent),.val (.cell (.int .i64)),.val (.cell (.int .i64))]))] }
noncomputable def zdx:Zp:=denP Tryz.prog (zav [(ID.row_in,(.pure [0] zc0)),(ID.geom_Width,(.pure [0] zaf)),(ID.row_sectors,(.pure [0] zcy)),(ID.place_Disk,(.pure [0] za1)),(ID.slices_Clone_byte_byte,(.pure [1] zaq)),(ID.place_Parity,(.pure [0,0] zaN)),(ID.synd_P,(.pure [1] zch)),(ID.synd_Q,(.pure [1] zci))]) zrs [1,0] ID.row_Fill
theorem zuA:za3 Tryz.prog ID.row_Fill (.pure [1,0] zdx):=zan (zax [ztz,zcH,zrT,zh2,zer,zgl,zoy,zoz]) zbs ⟨Tryz.f56,by kernel_rfl,by kernel_rfl,by kernel_rfl⟩
noncomputable def zwZ:Fact Tryz.prog:=⟨ID.row_Fill,(.pure [1,0] zdx),zuA⟩
noncomputable def zqN (zc0 zaf zcy za1 zaq zaN zch zci:Zp) (a0_0 a0_1 a0_2 a1:Int) (a2:List D):Option D:=
 zam (zc0 [.agg [.int .i64 a0_0,.int .i64 a0_1,.int .i64 a0_2],.int .i64 a1]) fun r1=>
 asB r1 fun b2=>
 brK (!b2)
  (some (.tup [.sl .own [],.bool false]))
  (zam (zaf [.agg [.int .i64 a0_0,.int .i64 a0_1,.int .i64 a0_2]]) fun r3=>
  asI .i64 r3 fun i4=>
  brK ((↑(a2.length):Int) != i4)
   (some (.tup [.sl .own [],.bool false]))
   (zam (zcy [.sl .lent a2]) fun r5=>
   asB r5 fun b6=>
   brK (!b6)
    (some (.tup [.sl .own [],.bool false]))
    (sif (0≤a0_1) <|
    sif (a0_1=a0_1) <|
    sif (a0_1*24≤140737488355328) <|
    sif (a0_1≤140737488355328) <|
    sif (a0_1.toNat=List.length (List.replicate (a0_1.toNat) (D.sl .nil []))) <|
    zca (α:=(Int×List D×(Int×Int×Int×PUnit)×List D×List D×Int×Int×PUnit)×PUnit) (fun again7 ((i8,(l9,((i10,(i11,(i12,_))),(l13,(l14,(i15,(i16,_))))))),_)=>
     brK (decide (i16 < i15))
      (sif (0≤i16) <|
      getK l14 (i16.toNat) fun d17=>
      asSl d17 fun t18 l19=>
      zam (za1 [.agg [.int .i64 i10,.int .i64 i11,.int .i64 i12],.int .i64 i8,.int .i64 i16]) fun r20=>
      asI .i64 r20 fun i21=>
      zam (zaq [.sl t18 l19]) fun r22=>
      za7 r22 fun l23=>
      sif (0≤i21) <|
      sif (i21.toNat < l13.length) <|
      sif (0+l23.length≤l23.length) <|
      getK l13 (0+i21.toNat) fun d24=>
      sif (0+l23.length≤l23.length) <|
      sif (D.isAgg d24=false) <|
      letN (IntKind.i64.wrap (i16+1)) fun n25=>
      sif (l13.length=List.length (List.set l13 (0+i21.toNat) (D.sl .fresh (cut 0 l23.length l23)))) <|
      again7 (((i8,l9,(i10,i11,i12,unit),List.set l13 (0+i21.toNat) (.sl .fresh (cut 0 l23.length l23)),l14,i15,n25,unit),unit)))
      (zam (zaN [.agg [.int .i64 i10,.int .i64 i11,.int .i64 i12],.int .i64 i8]) fun r26=>
      zdi r26 fun ts27=>
      zaw ([Lf.any,Lf.any]) ts27 fun c28=>
      asI .i64 c28.1 fun i29=>
      asI .i64 c28.2.1 fun i30=>
      zam (zch [.sl .lent l9]) fun r31=>
      za7 r31 fun l32=>
      sif (0≤i29) <|
      sif (i29.toNat < l13.length) <|
      sif (0+l32.length≤l32.length) <|
      getK l13 (0+i29.toNat) fun d33=>
      sif (0+l32.length≤l32.length) <|
      sif (D.isAgg d33=false) <|
      brK (decide (i30≥0))
       (zam (zci [.sl .lent l9]) fun r34=>
       za7 r34 fun l35=>
       sif (0≤i30) <|
       sif (i30.toNat < l13.length) <|
       sif (0+l35.length≤l35.length) <|
       getK (List.set l13 (0+i29.toNat) (.sl .fresh (cut 0 l32.length l32))) (0+i30.toNat) fun d36=>
       sif (0+l35.length≤l35.length) <|
       sif (D.isAgg d36=false) <|
       sif (l13.length=List.length (List.set (List.set l13 (0+i29.toNat) (D.sl .fresh (cut 0 l32.length l32))) (0+i30.toNat) (D.sl .fresh (cut 0 l35.length l35)))) <|
       sif (List.all (List.set (List.set l13 (0+i29.toNat) (D.sl .fresh (cut 0 l32.length l32))) (0+i30.toNat) (D.sl .fresh (cut 0 l35.length l35))) D.free=true) <|
       some (.tup [.sl .own (List.set (List.set l13 (0+i29.toNat) (.sl .fresh (cut 0 l32.length l32))) (0+i30.toNat) (.sl .fresh (cut 0 l35.length l35))),.bool true]))
       (sif (l13.length=List.length (List.set l13 (0+i29.toNat) (.sl .fresh (cut 0 l32.length l32)))) <|
       sif (List.all (List.set l13 (0+i29.toNat) (D.sl .fresh (cut 0 l32.length l32))) D.free=true) <|
       some (.tup [.sl .own (List.set l13 (0+i29.toNat) (.sl .fresh (cut 0 l32.length l32))),.bool true]))))
     (((a1,a2,(a0_0,a0_1,a0_2,unit),List.replicate (a0_1.toNat) (.sl .nil []),a2,(↑(a2.length):Int),(0:Int),unit),unit)))))
theorem zBX (zc0 zaf zcy za1 zaq zaN zch zci:Zp) (tga2:Tag) (a0_0 a0_1 a0_2 a1:Int) (a2:List D):denP Tryz.prog (zav [(ID.row_in,(.pure [0] zc0)),(ID.geom_Width,(.pure [0] zaf)),(ID.row_sectors,(.pure [0] zcy)),(ID.place_Disk,(.pure [0] za1)),(ID.slices_Clone_byte_byte,(.pure [1] zaq)),(ID.place_Parity,(.pure [0,0] zaN)),(ID.synd_P,(.pure [1] zch)),(ID.synd_Q,(.pure [1] zci))]) zrs [1,0] ID.row_Fill [.agg [.int .i64 a0_0,.int .i64 a0_1,.int .i64 a0_2],.int .i64 a1,.sl tga2 a2]=zqN zc0 zaf zcy za1 zaq zaN zch zci a0_0 a0_1 a0_2 a1 (D.lentL a2):=by kernel_rfl
theorem zw0 (tga2:Tag) (a0_0 a0_1 a0_2 a1:Int) (a2:List D):zdx [.agg [.int .i64 a0_0,.int .i64 a0_1,.int .i64 a0_2],.int .i64 a1,.sl tga2 a2]=zqN zc0 zaf zcy za1 zaq zaN zch zci a0_0 a0_1 a0_2 a1 (D.lentL a2):=zBX zc0 zaf zcy za1 zaq zaN zch zci tga2 a0_0 a0_1 a0_2 a1 a2
def zib:Ann:={ loops:=[],pubs:=[(2,[(3,128,8225)])],ks:=[(8225,true)] }
noncomputable def zbV:Zs:=denS Tryz.prog (zav [(ID.slices_Clone_disk_write_disk_write,(.pure [33] zag))]) zib [0] ID.disk_Disk_Clone
theorem zms:za3 Tryz.prog ID.disk_Disk_Clone (.st [] [0] [(8225,true)] zbV):=zbg (zax [zcU]) zbs ⟨Tryz.f51,by kernel_rfl,by kernel_rfl,by kernel_rfl⟩
noncomputable def znr:Fact Tryz.prog:=⟨ID.disk_Disk_Clone,(.st [] [0] [(8225,true)] zbV),zms⟩
noncomputable def zgp (zag:Zp) (a0:Nat) (T0:Tb):Option Ans:=
 getK T0 a0 fun d1=>
 sif (1666≤d1.length) <|
 sif (List.length (List.map D.hide (List.take (1666:Nat) (List.drop (0:Nat) d1)))=(1666:Nat)) <|
 getK T0 a0 fun d2=>
 getK d2 ((1664:Nat)) fun d3=>
 za7 d3 fun l4=>
 getK T0 a0 fun d5=>
 getK d5 ((1664:Nat)) fun d6=>
 za7 d6 fun l7=>
 sif (0+l4.length≤l7.length) <|
 zam (zag [.sl .lent (cut 0 l4.length l7)]) fun r8=>
 za7 r8 fun l9=>
 sif (0+l9.length≤l9.length) <|
 sif ((1664:Nat) < List.length (spl (0:Nat) (1666:Nat) (List.reverse ([D.bool false,D.sl .nil []]++List.replicate 1664 (D.int .u8 0))) (List.map D.hide (List.take (1666:Nat) (List.drop (0:Nat) d1))))) <|
 sif (some (1666:Nat)=some (List.length (spl (0:Nat) (1666:Nat) (List.reverse ([D.bool false,D.sl .nil []]++List.replicate 1664 (D.int .u8 0))) (List.map D.hide (List.take (1666:Nat) (List.drop (0:Nat) d1)))))) <|
 sif (l9.length=l9.length) <|
 sif (zdK l9=true) <|
 sif (zgD (33:Nat) l9=true) <|
 sif (List.all (List.set (spl (0:Nat) (1666:Nat) (List.reverse ([D.bool false,D.sl .nil []]++List.replicate 1664 (D.int .u8 0))) (List.map D.hide (List.take (1666:Nat) (List.drop (0:Nat) d1)))) (1664:Nat) D.nilp) D.own0ok=true) <|
 sif ((true && decide ((1:Nat)=(1:Nat)) && List.all [(1664:Nat)] fun k=>decide (k < List.length (spl (0:Nat) (1666:Nat) (List.reverse ([D.bool false,D.sl .nil []]++List.replicate 1664 (D.int .u8 0))) (List.map D.hide (List.take (1666:Nat) (List.drop (0:Nat) d1))))))=true) <|
 letT (T0++[List.set (List.map D.own0 (spl (0:Nat) (1666:Nat) (List.reverse ([.bool false,.sl .nil []]++List.replicate 1664 (.int .u8 0))) (List.map D.hide (List.take (1666:Nat) (List.drop (0:Nat) d1))))) (1664:Nat) (.sl .own l9)]) fun U10=>
 some (Ans.mk (.h (8225:Nat) (T0.length) (0:Nat)) [] [U10])
theorem zqO (zag:Zp) (a0:Nat) (T0:Tb):denS Tryz.prog (zav [(ID.slices_Clone_disk_write_disk_write,(.pure [33] zag))]) zib [0] ID.disk_Disk_Clone [.h 8225 a0 0] [T0]=zgp zag a0 T0:=by kernel_rfl
theorem zns (a0:Nat) (T0:Tb):zbV [.h 8225 a0 0] [T0]=zgp zag a0 T0:=zqO zag a0 T0
def zic:Ann:={ loops:=[],ks:=[(8225,true)] }
noncomputable def zbG:Zs:=denS Tryz.prog (zav [(ID.disk_Disk_put,(.st [] [0,0] [(8225,false)] zba))]) zic [0] ID.disk_Disk_Write
theorem zmt:za3 Tryz.prog ID.disk_Disk_Write (.st [] [0] [(8225,true)] zbG):=zbg (zax [ziD]) zbs ⟨Tryz.f116,by kernel_rfl,by kernel_rfl,by kernel_rfl⟩
noncomputable def znt:Fact Tryz.prog:=⟨ID.disk_Disk_Write,(.st [] [0] [(8225,true)] zbG),zmt⟩
noncomputable def zgq (zba:Zs) (a0:Nat) (a1:Int) (a2:List D) (T0:Tb):Option Ans:=
 zam (zba [.h 8225 a0 0,.int .i64 a1,.sl .lent a2] [T0]) fun r1=>
 nilK r1.outs <|
 nilK r1.tbs <|
 zdi r1.r fun ts2=>
 zaw ([Lf.any,Lf.any]) ts2 fun c3=>
 asAgg c3.1 fun cs4=>
 zaw ([Lf.int .i64,Lf.arr (32)]) cs4 fun c5=>
 asI .i64 c3.2.1 fun i6=>
 sif (List.length ([D.int .i64 c5.1]++(c5.2.1++[]))=(33:Nat)) <|
 brK (i6 == 0)
  (getK T0 a0 fun d7=>
  getK d7 ((1664:Nat)) fun d8=>
  za7 d8 fun l9=>
  sif (33≤List.length ([D.int .i64 c5.1]++(c5.2.1++[]))) <|
  zaw ([Lf.int .i64,Lf.arr (32)]) (List.take (33:Nat) (List.drop (0:Nat) ([.int .i64 c5.1]++(c5.2.1++[])))) fun c10=>
  sif (zeK (33:Nat) [D.agg ([D.int .i64 c10.1]++(c10.2.1++[]))]=true) <|
  getK T0 a0 fun d11=>
  getK d11 ((1664:Nat)) fun d12=>
  za7 d12 fun l13=>
  sif (l9.length+1≤4294967296) <|
  sif (zeK (33:Nat) [D.agg ([D.int .i64 c10.1]++(c10.2.1++[]))]=true) <|
  sif (l9.length=l13.length) <|
  letT (setT T0 a0 (1664:Nat) D.undef) fun U14=>
  getK U14 a0 fun d15=>
  sif (1665≤d15.length) <|
  sif (l9.length+1=List.length (l13++[D.agg ([D.int .i64 c10.1]++(c10.2.1++[]))])) <|
  sif (zdK (l13++[D.agg ([D.int .i64 c10.1]++(c10.2.1++[]))])=true) <|
  sif (zgD (33:Nat) (l13++[D.agg ([D.int .i64 c10.1]++(c10.2.1++[]))])=true) <|
  letT (zaU U14 a0 (1664:Nat) [.sl .own (l13++[.agg ([.int .i64 c10.1]++(c10.2.1++[]))])]) fun U16=>
  some (Ans.mk (.int .i64 i6) [] [U16]))
  (some (Ans.mk (.int .i64 i6) [] [T0]))
theorem zqP (zba:Zs) (tga2:Tag) (a0:Nat) (a1:Int) (a2:List D) (T0:Tb):denS Tryz.prog (zav [(ID.disk_Disk_put,(.st [] [0,0] [(8225,false)] zba))]) zic [0] ID.disk_Disk_Write [.h 8225 a0 0,.int .i64 a1,.sl tga2 a2] [T0]=zgq zba a0 a1 (D.lentL a2) T0:=by kernel_rfl
theorem znu (tga2:Tag) (a0:Nat) (a1:Int) (a2:List D) (T0:Tb):zbG [.h 8225 a0 0,.int .i64 a1,.sl tga2 a2] [T0]=zgq zba a0 a1 (D.lentL a2) T0:=zqP zba tga2 a0 a1 a2 T0
def zfO:Ann:={ loops:=[],ks:=[(2496,true)] }
noncomputable def zbj:Zs:=denS Tryz.prog (zav []) zfO [0] ID.bench_counter_count
theorem ziZ:za3 Tryz.prog ID.bench_counter_count (.st [] [0] [(2496,true)] zbj):=zbg (zax []) zbs ⟨Tryz.f117,by kernel_rfl,by kernel_rfl,by kernel_rfl⟩
noncomputable def zjK:Fact Tryz.prog:=⟨ID.bench_counter_count,(.st [] [0] [(2496,true)] zbj),ziZ⟩
noncomputable def zes (a0:Nat) (T0:Tb):Option Ans:=
 getK T0 a0 fun d1=>
 getK d1 ((1:Nat)) fun d2=>
 asI .i64 d2 fun i3=>
 brK (i3 == 0)
  (getK T0 a0 fun d4=>
  sif (3≤d4.length) <|
  sif (zfZ (List.take (1:Nat) (List.drop (2:Nat) d4))=true) <|
  letT (zaU T0 a0 (2:Nat) [.bool true]) fun U5=>
  some (Ans.mk (.bool false) [] [U5]))
  (getK T0 a0 fun d6=>
  getK d6 ((1:Nat)) fun d7=>
  asI .i64 d7 fun i8=>
  brK (decide (i8 > 0))
   (getK T0 a0 fun d9=>
   getK d9 ((1:Nat)) fun d10=>
   asI .i64 d10 fun i11=>
   letN (IntKind.i64.wrap (i11 - 1)) fun n12=>
   getK T0 a0 fun d13=>
   sif (2≤d13.length) <|
   sif (zfZ (List.take (1:Nat) (List.drop (1:Nat) d13))=true) <|
   letT (zaU T0 a0 (1:Nat) [.int .i64 n12]) fun U14=>
   getK U14 a0 fun d15=>
   getK d15 ((0:Nat)) fun d16=>
   asI .i64 d16 fun i17=>
   letN (IntKind.i64.wrap (i17+1)) fun n18=>
   getK U14 a0 fun d19=>
   sif (1≤d19.length) <|
   sif (zfZ (List.take (1:Nat) (List.drop (0:Nat) d19))=true) <|
   letT (zaU U14 a0 (0:Nat) [.int .i64 n18]) fun U20=>
   some (Ans.mk (.bool true) [] [U20]))
   (getK T0 a0 fun d21=>
   getK d21 ((0:Nat)) fun d22=>
   asI .i64 d22 fun i23=>
   letN (IntKind.i64.wrap (i23+1)) fun n24=>
   getK T0 a0 fun d25=>
   sif (1≤d25.length) <|
   sif (zfZ (List.take (1:Nat) (List.drop (0:Nat) d25))=true) <|
   letT (zaU T0 a0 (0:Nat) [.int .i64 n24]) fun U26=>
   some (Ans.mk (.bool true) [] [U26])))
theorem zmu (a0:Nat) (T0:Tb):denS Tryz.prog (zav []) zfO [0] ID.bench_counter_count [.h 2496 a0 0] [T0]=zes a0 T0:=by kernel_rfl
theorem zjL (a0:Nat) (T0:Tb):zbj [.h 2496 a0 0] [T0]=zes a0 T0:=zmu a0 T0
def zgQ:Ann:={ loops:=[],ks:=[(2496,true),(8225,true)] }
noncomputable def zbA:Zs:=denS Tryz.prog (zav [(ID.bench_Bench_may,(.st [] [0] [(2496,false)] zaB)),(ID.disk_Disk_Clone,(.st [] [0] [(8225,true)] zbV)),(ID.disk_Disk_Write,(.st [] [0] [(8225,true)] zbG)),(ID.bench_counter_count,(.st [] [0] [(2496,true)] zbj))]) zgQ [0] ID.bench_Bench_Write
theorem zkD:za3 Tryz.prog ID.bench_Bench_Write (.st [] [0] [(2496,true),(8225,true)] zbA):=zbg (zax [zeU,znr,znt,zjK]) zbs ⟨Tryz.f77,by kernel_rfl,by kernel_rfl,by kernel_rfl⟩
noncomputable def zlh:Fact Tryz.prog:=⟨ID.bench_Bench_Write,(.st [] [0] [(2496,true),(8225,true)] zbA),zkD⟩
noncomputable def zfg (zaB zbV zbG zbj:Zs) (a0:Nat) (a1 a2:Int) (a3:List D) (T0 T1:Tb):Option Ans:=
 zam (zaB [.h 2496 a0 0,.int .i64 a1] [T0]) fun r1=>
 nilK r1.outs <|
 nilK r1.tbs <|
 asI .i64 r1.r fun i2=>
 brK (i2 != 0)
  (some (Ans.mk (.int .i64 i2) [] [T0,T1]))
  (getK T0 a0 fun d3=>
  getK d3 ((3:Nat)) fun d4=>
  za7 d4 fun l5=>
  getK T0 a0 fun d6=>
  getK d6 ((3:Nat)) fun d7=>
  za7 d7 fun l8=>
  sif (0≤a1) <|
  sif (a1.toNat < l5.length) <|
  getK T0 a0 fun d9=>
  getK d9 ((3:Nat)) fun d10=>
  za7 d10 fun l11=>
  getK l11 (0+a1.toNat) fun d12=>
  sif (D.isAgg d12=false) <|
  sif (D.width d12=(1:Nat)) <|
  sif (D.cell d12=true) <|
  zam (zbV [d12] [T1]) fun r13=>
  nilK r13.outs <|
  zdd r13.tbs fun c14 q15=>
  nilK q15 <|
  sif (zhO r13.r=true) <|
  zam (zbG [r13.r,.int .i64 a2,.sl .lent a3] [c14]) fun r16=>
  nilK r16.outs <|
  zdd r16.tbs fun c17 q18=>
  nilK q18 <|
  asI .i64 r16.r fun i19=>
  brK (i19 != 0)
   (some (Ans.mk (.int .i64 i19) [] [T0,c17]))
   (zam (zbj [.h 2496 a0 0] [T0]) fun r20=>
   nilK r20.outs <|
   zdd r20.tbs fun c21 q22=>
   nilK q22 <|
   asB r20.r fun b23=>
   brK (!b23)
    (some (Ans.mk (.int .i64 6) [] [c21,c17]))
    (getK c21 a0 fun d24=>
    getK d24 ((3:Nat)) fun d25=>
    za7 d25 fun l26=>
    getK c21 a0 fun d27=>
    getK d27 ((3:Nat)) fun d28=>
    za7 d28 fun l29=>
    sif (0≤a1) <|
    sif (a1.toNat < l26.length) <|
    getK c21 a0 fun d30=>
    getK d30 ((3:Nat)) fun d31=>
    za7 d31 fun l32=>
    getK l32 (0+a1.toNat) fun d33=>
    sif (D.isAgg d33=false) <|
    sif (D.width d33=(1:Nat)) <|
    sif (D.cell d33=true) <|
    zam (zbG [d33,.int .i64 a2,.sl .lent a3] [c17]) fun r34=>
    nilK r34.outs <|
    zdd r34.tbs fun c35 q36=>
    nilK q36 <|
    asI .i64 r34.r fun i37=>
    some (Ans.mk (.int .i64 i37) [] [c21,c35]))))
theorem zoD (zaB zbV zbG zbj:Zs) (tga3:Tag) (a0:Nat) (a1 a2:Int) (a3:List D) (T0 T1:Tb):denS Tryz.prog (zav [(ID.bench_Bench_may,(.st [] [0] [(2496,false)] zaB)),(ID.disk_Disk_Clone,(.st [] [0] [(8225,true)] zbV)),(ID.disk_Disk_Write,(.st [] [0] [(8225,true)] zbG)),(ID.bench_counter_count,(.st [] [0] [(2496,true)] zbj))]) zgQ [0] ID.bench_Bench_Write [.h 2496 a0 0,.int .i64 a1,.int .i64 a2,.sl tga3 a3] [T0,T1]=zfg zaB zbV zbG zbj a0 a1 a2 (D.lentL a3) T0 T1:=by kernel_rfl
theorem zli (tga3:Tag) (a0:Nat) (a1 a2:Int) (a3:List D) (T0 T1:Tb):zbA [.h 2496 a0 0,.int .i64 a1,.int .i64 a2,.sl tga3 a3] [T0,T1]=zfg zaB zbV zbG zbj a0 a1 a2 (D.lentL a3) T0 T1:=zoD zaB zbV zbG zbj tga3 a0 a1 a2 a3 T0 T1
def zkV:Ann:={ loops:=[(1,.val (.cell (.hnd (2496:Nat)))::.val (.cell .lent)::.dead::.val (.cell (.int .i64))::dd 21 [.own 1,.val (.cell (.int .i64)),.val (.cell (.int .i64))])],ks:=[(2496,true),(8225,true)] }
noncomputable def zcc:Zs:=denS Tryz.prog (zav [(ID.row_Fill,(.pure [1,0] zdx)),(ID.stripe_up,(.st [] [0] [(2496,false),(8225,false)] zaV)),(ID.bench_Bench_Write,(.st [] [0] [(2496,true),(8225,true)] zbA))]) zkV [0] ID.stripe_Write
theorem zpT:za3 Tryz.prog ID.stripe_Write (.st [] [0] [(2496,true),(8225,true)] zcc):=zbg (zax [zwZ,zgy,zlh]) zbs ⟨Tryz.f89,by kernel_rfl,by kernel_rfl,by kernel_rfl⟩
noncomputable def zqQ:Fact Tryz.prog:=⟨ID.stripe_Write,(.st [] [0] [(2496,true),(8225,true)] zcc),zpT⟩
noncomputable def zi0 (zdx:Zp) (zaV zbA:Zs) (a0:Nat) (a1:List D) (a2_0 a2_1 a2_2 a3:Int) (a4:List D) (T0 T1:Tb):Option Ans:=
 zam (zdx [.agg [.int .i64 a2_0,.int .i64 a2_1,.int .i64 a2_2],.int .i64 a3,.sl .lent a4]) fun r1=>
 zdi r1 fun ts2=>
 zaw ([Lf.any,Lf.any]) ts2 fun c3=>
 za7 c3.1 fun l4=>
 asB c3.2.1 fun b5=>
 brK (!b5)
  (some (Ans.mk (.int .i64 1) [] [T0,T1]))
  (sif (0+l4.length≤l4.length) <|
  sif (l4.length=l4.length) <|
  zca (α:=(Nat×List D×Int×List D×Int×Int×PUnit)×List (List D)×List (List D)×PUnit) (fun again6 ((x7,(l8,(i9,(l10,(i11,(i12,_)))))),(U13,(U14,_)))=>
   brK (decide (i12 < i11))
    (sif (0≤i12) <|
    sif (i12.toNat < l10.length) <|
    getK l10 (0+i12.toNat) fun d15=>
    asSl d15 fun t16 l17=>
    zam (zaV [.h (2496) x7 (0:Nat),.sl .lent l8,.int .i64 i12] [U13,U14]) fun r18=>
    nilK r18.outs <|
    nilK r18.tbs <|
    asB r18.r fun b19=>
    brK (!b19)
     (letN (IntKind.i64.wrap (i12+1)) fun n20=>
     sif (l10.length=l10.length) <|
     again6 (((x7,l8,i9,l10,i11,n20,unit),U13,U14,unit)))
     (letN (IntKind.i64.wrap (36+i9)) fun n21=>
     zam (zbA [.h (2496) x7 (0:Nat),.int .i64 i12,.int .i64 n21,.sl t16 l17] [U13,U14]) fun r22=>
     nilK r22.outs <|
     zdd r22.tbs fun c23 q24=>
     zdd q24 fun c25 q26=>
     nilK q26 <|
     asI .i64 r22.r fun i27=>
     brK (i27 != 0)
      (some (Ans.mk (.int .i64 i27) [] [c23,c25]))
      (letN (IntKind.i64.wrap (i12+1)) fun n28=>
      sif (l10.length=l10.length) <|
      again6 (((x7,l8,i9,l10,i11,n28,unit),c23,c25,unit)))))
    (some (Ans.mk (.int .i64 0) [] [U13,U14])))
   (((a0,a1,a3,l4,(↑(l4.length):Int),(0:Int),unit),T0,T1,unit)))
theorem zuB (zdx:Zp) (zaV zbA:Zs) (tga1 tga4:Tag) (a0:Nat) (a1:List D) (a2_0 a2_1 a2_2 a3:Int) (a4:List D) (T0 T1:Tb):denS Tryz.prog (zav [(ID.row_Fill,(.pure [1,0] zdx)),(ID.stripe_up,(.st [] [0] [(2496,false),(8225,false)] zaV)),(ID.bench_Bench_Write,(.st [] [0] [(2496,true),(8225,true)] zbA))]) zkV [0] ID.stripe_Write [.h 2496 a0 0,.sl tga1 a1,.agg [.int .i64 a2_0,.int .i64 a2_1,.int .i64 a2_2],.int .i64 a3,.sl tga4 a4] [T0,T1]=zi0 zdx zaV zbA a0 (D.lentL a1) a2_0 a2_1 a2_2 a3 (D.lentL a4) T0 T1:=by kernel_rfl
theorem zqR (tga1 tga4:Tag) (a0:Nat) (a1:List D) (a2_0 a2_1 a2_2 a3:Int) (a4:List D) (T0 T1:Tb):zcc [.h 2496 a0 0,.sl tga1 a1,.agg [.int .i64 a2_0,.int .i64 a2_1,.int .i64 a2_2],.int .i64 a3,.sl tga4 a4] [T0,T1]=zi0 zdx zaV zbA a0 (D.lentL a1) a2_0 a2_1 a2_2 a3 (D.lentL a4) T0 T1:=zuB zdx zaV zbA tga1 tga4 a0 a1 a2_0 a2_1 a2_2 a3 a4 T0 T1
def zid:Ann:={ loops:=[(1,.val (.cell (.hnd (8225:Nat)))::dd 11 [.view 8225 1664,.val (.cell (.int .i64)),.val (.cell (.int .i64))])],ks:=[(8225,true)] }
noncomputable def zbW:Zs:=denS Tryz.prog (zav []) zid [0] ID.disk_Disk_Flush
theorem zmv:za3 Tryz.prog ID.disk_Disk_Flush (.st [] [0] [(8225,true)] zbW):=zbg (zax []) zbs ⟨Tryz.f150,by kernel_rfl,by kernel_rfl,by kernel_rfl⟩
noncomputable def znv:Fact Tryz.prog:=⟨ID.disk_Disk_Flush,(.st [] [0] [(8225,true)] zbW),zmv⟩
noncomputable def zgr (a0:Nat) (T0:Tb):Option Ans:=
 getK T0 a0 fun d1=>
 getK d1 ((1665:Nat)) fun d2=>
 asB d2 fun b3=>
 brK b3
  (some (Ans.mk (.int .i64 5) [] [T0]))
  (getK T0 a0 fun d4=>
  getK d4 ((1664:Nat)) fun d5=>
  za7 d5 fun l6=>
  getK T0 a0 fun d7=>
  getK d7 ((1664:Nat)) fun d8=>
  za7 d8 fun l9=>
  sif (0+l6.length≤l9.length) <|
  zca (α:=(Nat×(Nat×Nat×Nat)×Int×Int×PUnit)×List (List D)×PUnit) (fun again10 ((x11,((x12,(x13,x14)),(i15,(i16,_)))),(U17,_))=>
   brK (decide (i16 < i15))
    (getK U17 x12 fun d18=>
    getK d18 ((1664:Nat)) fun d19=>
    za7 d19 fun l20=>
    sif (0≤i16) <|
    sif (i16.toNat < x14) <|
    getK U17 x12 fun d21=>
    getK d21 ((1664:Nat)) fun d22=>
    za7 d22 fun l23=>
    getK l23 (x13+i16.toNat) fun d24=>
    asAgg d24 fun cs25=>
    zaw ([Lf.int .i64,Lf.arr (32)]) cs25 fun c26=>
    sif (D.width (D.agg ([D.int .i64 c26.1]++(c26.2.1++[])))=(33:Nat)) <|
    sif (List.length ([D.int .i64 c26.1]++(c26.2.1++[]))=(33:Nat)) <|
    sif (33≤List.length ([D.int .i64 c26.1]++(c26.2.1++[]))) <|
    sif (List.length (List.take (32:Nat) (List.drop (1:Nat) ([D.int .i64 c26.1]++(c26.2.1++[]))))=(32:Nat)) <|
    sif (0≤c26.1) <|
    sif (Int.toNat c26.1 < 52) <|
    getK U17 x11 fun d27=>
    sif (0+Int.toNat c26.1*32+32≤d27.length) <|
    sif (List.length (List.take (32:Nat) (List.drop (1:Nat) ([D.int .i64 c26.1]++(c26.2.1++[]))))=(32:Nat)) <|
    sif (zfZ (List.take (32:Nat) (List.drop (1:Nat) ([D.int .i64 c26.1]++(c26.2.1++[]))))=true) <|
    sif (zfZ (List.take (32:Nat) (List.drop (0+Int.toNat c26.1*32) d27))=true) <|
    letT (zaU U17 x11 (0+Int.toNat c26.1*32) (List.take (32:Nat) (List.drop (1:Nat) ([.int .i64 c26.1]++(c26.2.1++[]))))) fun U28=>
    letN (IntKind.i64.wrap (i16+1)) fun n29=>
    again10 (((x11,(x12,x13,x14),i15,n29,unit),U28,unit)))
    (getK U17 x11 fun d30=>
    sif (1665≤d30.length) <|
    letT (zaU U17 x11 (1664:Nat) [.sl .own []]) fun U31=>
    some (Ans.mk (.int .i64 0) [] [U31])))
   (((a0,(a0,(0:Nat),l6.length),(↑(l6.length):Int),(0:Int),unit),T0,unit)))
theorem zqS (a0:Nat) (T0:Tb):denS Tryz.prog (zav []) zid [0] ID.disk_Disk_Flush [.h 8225 a0 0] [T0]=zgr a0 T0:=by kernel_rfl
theorem znw (a0:Nat) (T0:Tb):zbW [.h 8225 a0 0] [T0]=zgr a0 T0:=zqS a0 T0
def zgR:Ann:={ loops:=[],ks:=[(2496,false),(8225,true)] }
noncomputable def zbB:Zs:=denS Tryz.prog (zav [(ID.bench_Bench_may,(.st [] [0] [(2496,false)] zaB)),(ID.disk_Disk_Flush,(.st [] [0] [(8225,true)] zbW))]) zgR [0] ID.bench_Bench_Flush
theorem zkE:za3 Tryz.prog ID.bench_Bench_Flush (.st [] [0] [(2496,false),(8225,true)] zbB):=zbg (zax [zeU,znv]) zbs ⟨Tryz.f118,by kernel_rfl,by kernel_rfl,by kernel_rfl⟩
noncomputable def zlj:Fact Tryz.prog:=⟨ID.bench_Bench_Flush,(.st [] [0] [(2496,false),(8225,true)] zbB),zkE⟩
noncomputable def zfh (zaB zbW:Zs) (a0:Nat) (a1:Int) (T0 T1:Tb):Option Ans:=
 zam (zaB [.h 2496 a0 0,.int .i64 a1] [T0]) fun r1=>
 nilK r1.outs <|
 nilK r1.tbs <|
 asI .i64 r1.r fun i2=>
 brK (i2 != 0)
  (some (Ans.mk (.int .i64 i2) [] [T1]))
  (getK T0 a0 fun d3=>
  getK d3 ((3:Nat)) fun d4=>
  za7 d4 fun l5=>
  getK T0 a0 fun d6=>
  getK d6 ((3:Nat)) fun d7=>
  za7 d7 fun l8=>
  sif (0≤a1) <|
  sif (a1.toNat < l5.length) <|
  getK T0 a0 fun d9=>
  getK d9 ((3:Nat)) fun d10=>
  za7 d10 fun l11=>
  getK l11 (0+a1.toNat) fun d12=>
  sif (D.isAgg d12=false) <|
  sif (D.width d12=(1:Nat)) <|
  sif (D.cell d12=true) <|
  zam (zbW [d12] [T1]) fun r13=>
  nilK r13.outs <|
  zdd r13.tbs fun c14 q15=>
  nilK q15 <|
  asI .i64 r13.r fun i16=>
  some (Ans.mk (.int .i64 i16) [] [c14]))
theorem zoE (zaB zbW:Zs) (a0:Nat) (a1:Int) (T0 T1:Tb):denS Tryz.prog (zav [(ID.bench_Bench_may,(.st [] [0] [(2496,false)] zaB)),(ID.disk_Disk_Flush,(.st [] [0] [(8225,true)] zbW))]) zgR [0] ID.bench_Bench_Flush [.h 2496 a0 0,.int .i64 a1] [T0,T1]=zfh zaB zbW a0 a1 T0 T1:=by kernel_rfl
theorem zlk (a0:Nat) (a1:Int) (T0 T1:Tb):zbB [.h 2496 a0 0,.int .i64 a1] [T0,T1]=zfh zaB zbW a0 a1 T0 T1:=zoE zaB zbW a0 a1 T0 T1
def zkW:Ann:={ loops:=[(0,.val (.cell (.hnd (2496:Nat)))::.val (.cell .lent)::dd 6 [.val (.cell (.int .i64)),.val (.cell (.int .i64))])],ks:=[(2496,false),(8225,true)] }
noncomputable def zcd:Zs:=denS Tryz.prog (zav [(ID.bench_Bench_Len,(.st [] [0] [(2496,false)] zaW)),(ID.stripe_up,(.st [] [0] [(2496,false),(8225,false)] zaV)),(ID.bench_Bench_Flush,(.st [] [0] [(2496,false),(8225,true)] zbB))]) zkW [0] ID.stripe_Flush
theorem zpU:za3 Tryz.prog ID.stripe_Flush (.st [] [0] [(2496,false),(8225,true)] zcd):=zbg (zax [zhc,zgy,zlj]) zbs ⟨Tryz.f90,by kernel_rfl,by kernel_rfl,by kernel_rfl⟩
noncomputable def zqT:Fact Tryz.prog:=⟨ID.stripe_Flush,(.st [] [0] [(2496,false),(8225,true)] zcd),zpU⟩
noncomputable def zi1 (zaW zaV zbB:Zs) (a0:Nat) (a1:List D) (T0 T1:Tb):Option Ans:=
 zam (zaW [.h 2496 a0 0] [T0]) fun r1=>
 nilK r1.outs <|
 nilK r1.tbs <|
 asI .i64 r1.r fun i2=>
 zca (α:=(Nat×List D×Int×Int×PUnit)×List (List D)×List (List D)×PUnit) (fun again3 ((x4,(l5,(i6,(i7,_)))),(U8,(U9,_)))=>
  brK (decide (i7 < i6))
   (zam (zaV [.h (2496) x4 (0:Nat),.sl .lent l5,.int .i64 i7] [U8,U9]) fun r10=>
   nilK r10.outs <|
   nilK r10.tbs <|
   asB r10.r fun b11=>
   brK (!b11)
    (letN (IntKind.i64.wrap (i7+1)) fun n12=>
    again3 (((x4,l5,i6,n12,unit),U8,U9,unit)))
    (zam (zbB [.h (2496) x4 (0:Nat),.int .i64 i7] [U8,U9]) fun r13=>
    nilK r13.outs <|
    zdd r13.tbs fun c14 q15=>
    nilK q15 <|
    asI .i64 r13.r fun i16=>
    brK (i16 != 0)
     (some (Ans.mk (.int .i64 i16) [] [c14]))
     (letN (IntKind.i64.wrap (i7+1)) fun n17=>
     again3 (((x4,l5,i6,n17,unit),U8,c14,unit)))))
   (some (Ans.mk (.int .i64 0) [] [U9])))
  (((a0,a1,i2,(0:Int),unit),T0,T1,unit))
theorem zuC (zaW zaV zbB:Zs) (tga1:Tag) (a0:Nat) (a1:List D) (T0 T1:Tb):denS Tryz.prog (zav [(ID.bench_Bench_Len,(.st [] [0] [(2496,false)] zaW)),(ID.stripe_up,(.st [] [0] [(2496,false),(8225,false)] zaV)),(ID.bench_Bench_Flush,(.st [] [0] [(2496,false),(8225,true)] zbB))]) zkW [0] ID.stripe_Flush [.h 2496 a0 0,.sl tga1 a1] [T0,T1]=zi1 zaW zaV zbB a0 (D.lentL a1) T0 T1:=by kernel_rfl
theorem zqU (tga1:Tag) (a0:Nat) (a1:List D) (T0 T1:Tb):zcd [.h 2496 a0 0,.sl tga1 a1] [T0,T1]=zi1 zaW zaV zbB a0 (D.lentL a1) T0 T1:=zuC zaW zaV zbB tga1 a0 a1 T0 T1
def zkX:Ann:={ loops:=[(1,.val (.cell (.hnd (2496:Nat)))::.val (.cell .lent)::dd 2 (.val (.cell (.int .i64))::.val (.cell .lent)::dd 2 (.box true [(.int .i64),(.int .i64),(.int .i64)]::.box true [(.int .i64),(.int .i64),(.int .i64)]::dd 3 (.val (.cell (.int .i64))::dd 29 [.val (.cell .lent),.val (.cell (.int .i64)),.val (.cell (.int .i64))])))),(4,.val (.cell (.hnd 2496))::.val (.cell .lent)::dd 2 (.val (.cell (.int .i64))::.val (.cell .lent)::dd 3 (.box true [(.int .i64),(.int .i64),(.int .i64)]::dd 3 (.val (.cell (.int .i64))::dd 3 [.val (.cell (.int .i64)),.val (.cell (.int .i64))])))),(6,.val (.cell (.hnd 2496))::.val (.cell .lent)::dd 2 (.val (.cell (.int .i64))::.val (.cell .lent)::dd 3 (.box true [(.int .i64),(.int .i64),(.int .i64)]::dd 3 (.val (.cell (.int .i64))::dd 3 (.val (.cell (.int .i64))::.val (.cell (.int .i64))::.own 1::dd 49 [.own 1,.val (.cell (.int .i64)),.val (.cell (.int .i64))])))))],ks:=[(2496,true),(8225,true)] }
noncomputable def zbt:Zs:=denS Tryz.prog (zav [(ID.plan_Span,(.pure [0,0] zb2)),(ID.window_may,(.pure [0] zbP)),(ID.plan_Rows,(.pure [0] zbe)),(ID.place_Numbers,(.pure [1] za5)),(ID.stripe_Write,(.st [] [0] [(2496,true),(8225,true)] zcc)),(ID.stripe_Flush,(.st [] [0] [(2496,false),(8225,true)] zcd))]) zkX [0] ID.window_Write
theorem zpV:za3 Tryz.prog ID.window_Write (.st [] [0] [(2496,true),(8225,true)] zbt):=zbg (zax [znL,zmb,ziS,ziG,zqQ,zqT]) zbs ⟨Tryz.f42,by kernel_rfl,by kernel_rfl,by kernel_rfl⟩
noncomputable def zqV:Fact Tryz.prog:=⟨ID.window_Write,(.st [] [0] [(2496,true),(8225,true)] zbt),zpV⟩
noncomputable def zi2 (zb2 zbP zbe za5:Zp) (zcc zcd:Zs) (a0:Nat) (a1:List D) (a2_0 a2_1 a2_2 a3_0 a3_1 a3_2 a4:Int) (a5:List D) (T0 T1:Tb):Option Ans:=
 zam (zb2 [.agg [.int .i64 a2_0,.int .i64 a2_1,.int .i64 a2_2],.agg [.int .i64 a3_0,.int .i64 a3_1,.int .i64 a3_2],.int .i64 a4]) fun r1=>
 zdi r1 fun ts2=>
 zaw ([Lf.any,Lf.any]) ts2 fun c3=>
 asI .i64 c3.1 fun i4=>
 asI .i64 c3.2.1 fun i5=>
 zam (zbP [.agg [.int .i64 a2_0,.int .i64 a2_1,.int .i64 a2_2],.agg [.int .i64 a3_0,.int .i64 a3_1,.int .i64 a3_2],.int .i64 a4]) fun r6=>
 asB r6 fun b7=>
 brK (!b7)
  (some (Ans.mk (.int .i64 1) [] [T0,T1]))
  (letN (IntKind.i64.wrap (i5 - i4)) fun n8=>
  brK ((↑(a5.length):Int) != n8)
   (some (Ans.mk (.int .i64 1) [] [T0,T1]))
   (zca (α:=(Nat×List D×Int×List D×(Int×Int×Int×PUnit)×(Int×Int×Int×PUnit)×Int×List D×Int×Int×PUnit)×List (List D)×List (List D)×PUnit) (fun again9 ((x10,(l11,(i12,(l13,((i14,(i15,(i16,_))),((i17,(i18,(i19,_))),(i20,(l21,(i22,(i23,_)))))))))),(U24,(U25,_)))=>
    brK (decide (i23 < i22))
     (sif (0≤i23) <|
     getK l21 (i23.toNat) fun d26=>
     asSl d26 fun t27 l28=>
     brK ((↑(l28.length):Int) != 32)
      (some (Ans.mk (.int .i64 1) [] [U24,U25]))
      (letN (IntKind.i64.wrap (i23+1)) fun n29=>
      again9 (((x10,l11,i12,l13,(i14,i15,i16,unit),(i17,i18,i19,unit),i20,l21,i22,n29,unit),U24,U25,unit))))
     (zam (zbe [.agg [.int .i64 i14,.int .i64 i15,.int .i64 i16],.agg [.int .i64 i17,.int .i64 i18,.int .i64 i19]]) fun r30=>
     asI .i64 r30 fun i31=>
     letN (IntKind.i64.wrap (i12*i31)) fun n32=>
     zca (α:=(Nat×List D×Int×List D×(Int×Int×Int×PUnit)×Int×Int×Int×PUnit)×List (List D)×List (List D)×PUnit) (fun again33 ((x34,(l35,(i36,(l37,((i38,(i39,(i40,_))),(i41,(i42,(i43,_)))))))),(U44,(U45,_)))=>
      letN (IntKind.i64.wrap (i36+1)) fun n46=>
      letN (IntKind.i64.wrap (n46*i42)) fun n47=>
      brK (decide (i43 < n47))
       (zam (za5 [.agg [.int .i64 i38,.int .i64 i39,.int .i64 i40],.int .i64 i43]) fun r48=>
       za7 r48 fun l49=>
       sif (0+l49.length≤l49.length) <|
       sif (l49.length=l49.length) <|
       zca (α:=(Nat×List D×Int×List D×(Int×Int×Int×PUnit)×Int×Int×Int×List D×List D×Int×Int×PUnit)×List (List D)×List (List D)×PUnit) (fun again50 ((x51,(l52,(i53,(l54,((i55,(i56,(i57,_))),(i58,(i59,(i60,(l61,(l62,(i63,(i64,_)))))))))))),(U65,(U66,_)))=>
        brK (decide (i64 < i63))
         (sif (0≤i64) <|
         sif (i64.toNat < l62.length) <|
         getK l62 (0+i64.toNat) fun d67=>
         asI .i64 d67 fun i68=>
         letN (IntKind.i64.wrap (i68 - i58)) fun n69=>
         sif (0≤n69) <|
         getK l54 (n69.toNat) fun d70=>
         asSl d70 fun t71 l72=>
         sif (l61.length+1≤4294967296) <|
         sif (l61.length=l61.length) <|
         letN (IntKind.i64.wrap (i64+1)) fun n73=>
         sif (l61.length+1=List.length (l61++[D.sl t71 l72])) <|
         sif (l62.length=l62.length) <|
         again50 (((x51,l52,i53,l54,(i55,i56,i57,unit),i58,i59,i60,l61++[.sl t71 l72],l62,i63,n73,unit),U65,U66,unit)))
         (sif (0+l61.length≤l61.length) <|
         zam (zcc [.h (2496) x51 (0:Nat),.sl .lent l52,.agg [.int .i64 i55,.int .i64 i56,.int .i64 i57],.int .i64 i60,.sl .lent (cut 0 l61.length l61)] [U65,U66]) fun r74=>
         nilK r74.outs <|
         zdd r74.tbs fun c75 q76=>
         zdd q76 fun c77 q78=>
         nilK q78 <|
         asI .i64 r74.r fun i79=>
         brK (i79 != 0)
          (some (Ans.mk (.int .i64 i79) [] [c75,c77]))
          (letN (IntKind.i64.wrap (i60+1)) fun n80=>
          again33 (((x51,l52,i53,l54,(i55,i56,i57,unit),i58,i59,n80,unit),c75,c77,unit)))))
        (((x34,l35,i36,l37,(i38,i39,i40,unit),i41,i42,i43,[],l49,(↑(l49.length):Int),(0:Int),unit),U44,U45,unit)))
       (zam (zcd [.h (2496) x34 (0:Nat),.sl .lent l35] [U44,U45]) fun r81=>
       nilK r81.outs <|
       zdd r81.tbs fun c82 q83=>
       nilK q83 <|
       asI .i64 r81.r fun i84=>
       some (Ans.mk (.int .i64 i84) [] [U44,c82])))
      (((x10,l11,i12,l13,(i17,i18,i19,unit),i20,i31,n32,unit),U24,U25,unit))))
    (((a0,a1,a4,a5,(a2_0,a2_1,a2_2,unit),(a3_0,a3_1,a3_2,unit),i4,a5,(↑(a5.length):Int),(0:Int),unit),T0,T1,unit))))
theorem zuD (zb2 zbP zbe za5:Zp) (zcc zcd:Zs) (tga1 tga5:Tag) (a0:Nat) (a1:List D) (a2_0 a2_1 a2_2 a3_0 a3_1 a3_2 a4:Int) (a5:List D) (T0 T1:Tb):denS Tryz.prog (zav [(ID.plan_Span,(.pure [0,0] zb2)),(ID.window_may,(.pure [0] zbP)),(ID.plan_Rows,(.pure [0] zbe)),(ID.place_Numbers,(.pure [1] za5)),(ID.stripe_Write,(.st [] [0] [(2496,true),(8225,true)] zcc)),(ID.stripe_Flush,(.st [] [0] [(2496,false),(8225,true)] zcd))]) zkX [0] ID.window_Write [.h 2496 a0 0,.sl tga1 a1,.agg [.int .i64 a2_0,.int .i64 a2_1,.int .i64 a2_2],.agg [.int .i64 a3_0,.int .i64 a3_1,.int .i64 a3_2],.int .i64 a4,.sl tga5 a5] [T0,T1]=zi2 zb2 zbP zbe za5 zcc zcd a0 (D.lentL a1) a2_0 a2_1 a2_2 a3_0 a3_1 a3_2 a4 (D.lentL a5) T0 T1:=by kernel_rfl
theorem zqW (tga1 tga5:Tag) (a0:Nat) (a1:List D) (a2_0 a2_1 a2_2 a3_0 a3_1 a3_2 a4:Int) (a5:List D) (T0 T1:Tb):zbt [.h 2496 a0 0,.sl tga1 a1,.agg [.int .i64 a2_0,.int .i64 a2_1,.int .i64 a2_2],.agg [.int .i64 a3_0,.int .i64 a3_1,.int .i64 a3_2],.int .i64 a4,.sl tga5 a5] [T0,T1]=zi2 zb2 zbP zbe za5 zcc zcd a0 (D.lentL a1) a2_0 a2_1 a2_2 a3_0 a3_1 a3_2 a4 (D.lentL a5) T0 T1:=zuD zb2 zbP zbe za5 zcc zcd tga1 tga5 a0 a1 a2_0 a2_1 a2_2 a3_0 a3_1 a3_2 a4 a5 T0 T1
def zfP:Ann:={ loops:=[],ks:=[(2496,true)] }
noncomputable def zbk:Zs:=denS Tryz.prog (zav []) zfP [] ID.bench_counter_Limit
theorem zi3:za3 Tryz.prog ID.bench_counter_Limit (.st [] [] [(2496,true)] zbk):=zbg (zax []) zbs ⟨Tryz.f30,by kernel_rfl,by kernel_rfl,by kernel_rfl⟩
noncomputable def zjM:Fact Tryz.prog:=⟨ID.bench_counter_Limit,(.st [] [] [(2496,true)] zbk),zi3⟩
noncomputable def zet (a0:Nat) (a1:Int) (T0:Tb):Option Ans:=
 letN (max (-1:Int) a1) fun n1=>
 getK T0 a0 fun d2=>
 sif (2≤d2.length) <|
 sif (zfZ (List.take (1:Nat) (List.drop (1:Nat) d2))=true) <|
 letT (zaU T0 a0 (1:Nat) [.int .i64 n1]) fun U3=>
 some (Ans.mk (.tup []) [] [U3])
theorem zmw (a0:Nat) (a1:Int) (T0:Tb):denS Tryz.prog (zav []) zfP [] ID.bench_counter_Limit [.h 2496 a0 0,.int .i64 a1] [T0]=zet a0 a1 T0:=by kernel_rfl
theorem zjN (a0:Nat) (a1:Int) (T0:Tb):zbk [.h 2496 a0 0,.int .i64 a1] [T0]=zet a0 a1 T0:=zmw a0 a1 T0
def zf9:Ann:={ loops:=[],ks:=[(2496,false)] }
noncomputable def zbi:Zs:=denS Tryz.prog (zav []) zf9 [0] ID.bench_counter_Down
theorem zjO:za3 Tryz.prog ID.bench_counter_Down (.st [] [0] [(2496,false)] zbi):=zbg (zax []) zbs ⟨Tryz.f31,by kernel_rfl,by kernel_rfl,by kernel_rfl⟩
noncomputable def zkF:Fact Tryz.prog:=⟨ID.bench_counter_Down,(.st [] [0] [(2496,false)] zbi),zjO⟩
noncomputable def zeY (a0:Nat) (T0:Tb):Option Ans:=
 getK T0 a0 fun d1=>
 getK d1 ((2:Nat)) fun d2=>
 asB d2 fun b3=>
 some (Ans.mk (.bool b3) [] [])
theorem znx (a0:Nat) (T0:Tb):denS Tryz.prog (zav []) zf9 [0] ID.bench_counter_Down [.h 2496 a0 0] [T0]=zeY a0 T0:=by kernel_rfl
theorem zkG (a0:Nat) (T0:Tb):zbi [.h 2496 a0 0] [T0]=zeY a0 T0:=znx a0 T0
def zgS:Ann:={ loops:=[],ks:=[(8225,false)] }
noncomputable def zaK:Zs:=denS Tryz.prog (zav []) zgS [0] ID.disk_Disk_Pending
theorem zkH:za3 Tryz.prog ID.disk_Disk_Pending (.st [] [0] [(8225,false)] zaK):=zbg (zax []) zbs ⟨Tryz.f60,by kernel_rfl,by kernel_rfl,by kernel_rfl⟩
noncomputable def zll:Fact Tryz.prog:=⟨ID.disk_Disk_Pending,(.st [] [0] [(8225,false)] zaK),zkH⟩
noncomputable def zfi (a0:Nat) (T0:Tb):Option Ans:=
 getK T0 a0 fun d1=>
 getK d1 ((1664:Nat)) fun d2=>
 za7 d2 fun l3=>
 getK T0 a0 fun d4=>
 getK d4 ((1664:Nat)) fun d5=>
 za7 d5 fun l6=>
 sif (0+l3.length≤l6.length) <|
 some (Ans.mk (.int .i64 (↑(l3.length):Int)) [] [])
theorem zoF (a0:Nat) (T0:Tb):denS Tryz.prog (zav []) zgS [0] ID.disk_Disk_Pending [.h 8225 a0 0] [T0]=zfi a0 T0:=by kernel_rfl
theorem zlm (a0:Nat) (T0:Tb):zaK [.h 8225 a0 0] [T0]=zfi a0 T0:=zoF a0 T0
def zie:Ann:={ loops:=[(0,.val (.cell (.hnd (8225:Nat)))::.val (.cell .lent)::dd 7 [.view 8225 1664,.val (.cell (.int .i64)),.val (.cell (.int .i64))])],ks:=[(8225,true)] }
noncomputable def zbX:Zs:=denS Tryz.prog (zav []) zie [] ID.disk_Disk_Crash
theorem zmx:za3 Tryz.prog ID.disk_Disk_Crash (.st [] [] [(8225,true)] zbX):=zbg (zax []) zbs ⟨Tryz.f69,by kernel_rfl,by kernel_rfl,by kernel_rfl⟩
noncomputable def zny:Fact Tryz.prog:=⟨ID.disk_Disk_Crash,(.st [] [] [(8225,true)] zbX),zmx⟩
noncomputable def zgs (a0:Nat) (a1:List D) (T0:Tb):Option Ans:=
 getK T0 a0 fun d1=>
 getK d1 ((1664:Nat)) fun d2=>
 za7 d2 fun l3=>
 getK T0 a0 fun d4=>
 getK d4 ((1664:Nat)) fun d5=>
 za7 d5 fun l6=>
 sif (0+l3.length≤l6.length) <|
 zca (α:=(Nat×List D×(Nat×Nat×Nat)×Int×Int×PUnit)×List (List D)×PUnit) (fun again7 ((x8,(l9,((x10,(x11,x12)),(i13,(i14,_))))),(U15,_))=>
  brK (decide (i14 < i13))
   (getK U15 x10 fun d16=>
   getK d16 ((1664:Nat)) fun d17=>
   za7 d17 fun l18=>
   sif (0≤i14) <|
   sif (i14.toNat < x12) <|
   getK U15 x10 fun d19=>
   getK d19 ((1664:Nat)) fun d20=>
   za7 d20 fun l21=>
   getK l21 (x11+i14.toNat) fun d22=>
   asAgg d22 fun cs23=>
   zaw ([Lf.int .i64,Lf.arr (32)]) cs23 fun c24=>
   sif (D.width (D.agg ([D.int .i64 c24.1]++(c24.2.1++[])))=(33:Nat)) <|
   sif (List.length ([D.int .i64 c24.1]++(c24.2.1++[]))=(33:Nat)) <|
   brK (decide (i14 < (↑(l9.length):Int)))
    (sif (0≤i14) <|
    getK l9 (i14.toNat) fun d25=>
    asB d25 fun b26=>
    brK b26
     (sif (33≤List.length ([.int .i64 c24.1]++(c24.2.1++[]))) <|
     sif (List.length (List.take (32:Nat) (List.drop (1:Nat) ([D.int .i64 c24.1]++(c24.2.1++[]))))=(32:Nat)) <|
     sif (0≤c24.1) <|
     sif (Int.toNat c24.1 < 52) <|
     getK U15 x8 fun d27=>
     sif (0+Int.toNat c24.1*32+32≤d27.length) <|
     sif (List.length (List.take (32:Nat) (List.drop (1:Nat) ([D.int .i64 c24.1]++(c24.2.1++[]))))=(32:Nat)) <|
     sif (zfZ (List.take (32:Nat) (List.drop (1:Nat) ([D.int .i64 c24.1]++(c24.2.1++[]))))=true) <|
     sif (zfZ (List.take (32:Nat) (List.drop (0+Int.toNat c24.1*32) d27))=true) <|
     letT (zaU U15 x8 (0+Int.toNat c24.1*32) (List.take (32:Nat) (List.drop (1:Nat) ([.int .i64 c24.1]++(c24.2.1++[]))))) fun U28=>
     letN (IntKind.i64.wrap (i14+1)) fun n29=>
     again7 (((x8,l9,(x10,x11,x12),i13,n29,unit),U28,unit)))
     (letN (IntKind.i64.wrap (i14+1)) fun n30=>
     again7 (((x8,l9,(x10,x11,x12),i13,n30,unit),U15,unit))))
    (letN (IntKind.i64.wrap (i14+1)) fun n31=>
    again7 (((x8,l9,(x10,x11,x12),i13,n31,unit),U15,unit))))
   (getK U15 x8 fun d32=>
   sif (1665≤d32.length) <|
   letT (zaU U15 x8 (1664:Nat) [.sl .own []]) fun U33=>
   some (Ans.mk (.tup []) [] [U33])))
  (((a0,a1,(a0,(0:Nat),l3.length),(↑(l3.length):Int),(0:Int),unit),T0,unit))
theorem zqX (tga1:Tag) (a0:Nat) (a1:List D) (T0:Tb):denS Tryz.prog (zav []) zie [] ID.disk_Disk_Crash [.h 8225 a0 0,.sl tga1 a1] [T0]=zgs a0 (D.lentL a1) T0:=by kernel_rfl
theorem znz (tga1:Tag) (a0:Nat) (a1:List D) (T0:Tb):zbX [.h 8225 a0 0,.sl tga1 a1] [T0]=zgs a0 (D.lentL a1) T0:=zqX tga1 a0 a1 T0
def zgT:Ann:={ loops:=[(0,.val (.cell (.hnd (2496:Nat)))::.val (.cell .lent)::dd 8 [.view 2496 3,.val (.cell (.int .i64)),.val (.cell (.int .i64))])],ks:=[(2496,true),(8225,true)] }
noncomputable def zbo:Zs:=denS Tryz.prog (zav [(ID.disk_Disk_Pending,(.st [] [0] [(8225,false)] zaK)),(ID.disk_Disk_Crash,(.st [] [] [(8225,true)] zbX))]) zgT [] ID.bench_Bench_Crash
theorem zkI:za3 Tryz.prog ID.bench_Bench_Crash (.st [] [] [(2496,true),(8225,true)] zbo):=zbg (zax [zll,zny]) zbs ⟨Tryz.f32,by kernel_rfl,by kernel_rfl,by kernel_rfl⟩
noncomputable def zln:Fact Tryz.prog:=⟨ID.bench_Bench_Crash,(.st [] [] [(2496,true),(8225,true)] zbo),zkI⟩
noncomputable def zfj (zaK zbX:Zs) (a0:Nat) (a1:List D) (T0 T1:Tb):Option Ans:=
 getK T0 a0 fun d1=>
 getK d1 ((3:Nat)) fun d2=>
 za7 d2 fun l3=>
 getK T0 a0 fun d4=>
 getK d4 ((3:Nat)) fun d5=>
 za7 d5 fun l6=>
 sif (0+l3.length≤l6.length) <|
 zca (α:=(Nat×List D×(Nat×Nat×Nat)×Int×Int×PUnit)×List (List D)×List (List D)×PUnit) (fun again7 ((x8,(l9,((x10,(x11,x12)),(i13,(i14,_))))),(U15,(U16,_)))=>
  brK (decide (i14 < i13))
   (getK U15 x10 fun d17=>
   getK d17 ((3:Nat)) fun d18=>
   za7 d18 fun l19=>
   sif (0≤i14) <|
   sif (i14.toNat < x12) <|
   getK U15 x10 fun d20=>
   getK d20 ((3:Nat)) fun d21=>
   za7 d21 fun l22=>
   getK l22 (x11+i14.toNat) fun d23=>
   sif (D.isAgg d23=false) <|
   sif (D.width d23=(1:Nat)) <|
   sif (D.cell d23=true) <|
   zam (zaK [d23] [U16]) fun r24=>
   nilK r24.outs <|
   nilK r24.tbs <|
   asI .i64 r24.r fun i25=>
   letN (min i25 (↑(l9.length):Int)) fun n26=>
   sif (0≤n26) <|
   sif (n26≤(↑(l9.length):Int)) <|
   sif (n26=n26) <|
   sif (zsN (1:Nat) l9=true) <|
   zam (zbX [d23,.sl (zeb Tag.lent false (decide (n26=(↑(l9.length):Int)))) (cutI (0:Int) n26 l9)] [U16]) fun r27=>
   nilK r27.outs <|
   zdd r27.tbs fun c28 q29=>
   nilK q29 <|
   zdi r27.r fun ts30=>
   nilK ts30 <|
   sif (0≤n26) <|
   sif (n26≤(↑(l9.length):Int)) <|
   sif ((↑(l9.length):Int)≤(↑(l9.length):Int)) <|
   sif ((↑(l9.length):Int)=(↑(l9.length):Int)) <|
   sif (zsN (1:Nat) l9=true) <|
   letN (IntKind.i64.wrap (i14+1)) fun n31=>
   again7 (((x8,cutI n26 (↑(l9.length):Int) l9,(x10,x11,x12),i13,n31,unit),U15,c28,unit)))
   (getK U15 x8 fun d32=>
   sif (2≤d32.length) <|
   sif (zfZ (List.take (1:Nat) (List.drop (1:Nat) d32))=true) <|
   letT (zaU U15 x8 (1:Nat) [.int .i64 (-1)]) fun U33=>
   getK U33 x8 fun d34=>
   sif (3≤d34.length) <|
   sif (zfZ (List.take (1:Nat) (List.drop (2:Nat) d34))=true) <|
   letT (zaU U33 x8 (2:Nat) [.bool false]) fun U35=>
   some (Ans.mk (.tup []) [] [U35,U16])))
  (((a0,a1,(a0,(0:Nat),l3.length),(↑(l3.length):Int),(0:Int),unit),T0,T1,unit))
theorem zoG (zaK zbX:Zs) (tga1:Tag) (a0:Nat) (a1:List D) (T0 T1:Tb):denS Tryz.prog (zav [(ID.disk_Disk_Pending,(.st [] [0] [(8225,false)] zaK)),(ID.disk_Disk_Crash,(.st [] [] [(8225,true)] zbX))]) zgT [] ID.bench_Bench_Crash [.h 2496 a0 0,.sl tga1 a1] [T0,T1]=zfj zaK zbX a0 (D.lentL a1) T0 T1:=by kernel_rfl
theorem zlo (tga1:Tag) (a0:Nat) (a1:List D) (T0 T1:Tb):zbo [.h 2496 a0 0,.sl tga1 a1] [T0,T1]=zfj zaK zbX a0 (D.lentL a1) T0 T1:=zoG zaK zbX tga1 a0 a1 T0 T1
def zhg:Ann:={ loops:=[] }
noncomputable def zbm:Zp:=denP Tryz.prog (zav [(ID.wattleref01_Windows,(.pure [0] zaz)),(ID.wattleref01_Rows,(.pure [0] zaR)),(ID.wattleref01_Width,(.pure [0] zaa))]) zhg [0,0] ID.wattleref01_Span
theorem zlp:za3 Tryz.prog ID.wattleref01_Span (.pure [0,0] zbm):=zan (zax [zfo,zgO,zbM]) zbs ⟨Tryz.f41,by kernel_rfl,by kernel_rfl,by kernel_rfl⟩
noncomputable def zmy:Fact Tryz.prog:=⟨ID.wattleref01_Span,(.pure [0,0] zbm),zlp⟩
noncomputable def zfQ (zaz zaR zaa:Zp) (a0_0 a0_1 a0_2 a1_0 a1_1 a1_2 a2:Int):Option D:=
 brK (decide (a2 < 0))
  (some (.tup [.int .i64 0,.int .i64 0]))
  (zam (zaz [.agg [.int .i64 a0_0,.int .i64 a0_1,.int .i64 a0_2],.agg [.int .i64 a1_0,.int .i64 a1_1,.int .i64 a1_2]]) fun r1=>
  asI .i64 r1 fun i2=>
  brK (decide (a2≥i2))
   (some (.tup [.int .i64 0,.int .i64 0]))
   (zam (zaR [.agg [.int .i64 a0_0,.int .i64 a0_1,.int .i64 a0_2],.agg [.int .i64 a1_0,.int .i64 a1_1,.int .i64 a1_2]]) fun r3=>
   asI .i64 r3 fun i4=>
   zam (zaa [.agg [.int .i64 a1_0,.int .i64 a1_1,.int .i64 a1_2]]) fun r5=>
   asI .i64 r5 fun i6=>
   letN (IntKind.i64.wrap (i4*i6)) fun n7=>
   letN (IntKind.i64.wrap (a2*n7)) fun n8=>
   letN (IntKind.i64.wrap (a2+1)) fun n9=>
   letN (IntKind.i64.wrap (n9*n7)) fun n10=>
   some (.tup [.int .i64 n8,.int .i64 n10])))
theorem zpW (zaz zaR zaa:Zp) (a0_0 a0_1 a0_2 a1_0 a1_1 a1_2 a2:Int):denP Tryz.prog (zav [(ID.wattleref01_Windows,(.pure [0] zaz)),(ID.wattleref01_Rows,(.pure [0] zaR)),(ID.wattleref01_Width,(.pure [0] zaa))]) zhg [0,0] ID.wattleref01_Span [.agg [.int .i64 a0_0,.int .i64 a0_1,.int .i64 a0_2],.agg [.int .i64 a1_0,.int .i64 a1_1,.int .i64 a1_2],.int .i64 a2]=zfQ zaz zaR zaa a0_0 a0_1 a0_2 a1_0 a1_1 a1_2 a2:=by kernel_rfl
theorem zmz (a0_0 a0_1 a0_2 a1_0 a1_1 a1_2 a2:Int):zbm [.agg [.int .i64 a0_0,.int .i64 a0_1,.int .i64 a0_2],.agg [.int .i64 a1_0,.int .i64 a1_1,.int .i64 a1_2],.int .i64 a2]=zfQ zaz zaR zaa a0_0 a0_1 a0_2 a1_0 a1_1 a1_2 a2:=zpW zaz zaR zaa a0_0 a0_1 a0_2 a1_0 a1_1 a1_2 a2
def zfq:Ann:={ loops:=[] }
noncomputable def zbb:Zp:=denP Tryz.prog (zav [(ID.wattleref01_Width,(.pure [0] zaa))]) zfq [0] ID.wattleref01_Capacity
theorem zik:za3 Tryz.prog ID.wattleref01_Capacity (.pure [0] zbb):=zan (zax [zbM]) zbs ⟨Tryz.f15,by kernel_rfl,by kernel_rfl,by kernel_rfl⟩
noncomputable def zi4:Fact Tryz.prog:=⟨ID.wattleref01_Capacity,(.pure [0] zbb),zik⟩
noncomputable def zd9 (zaa:Zp) (a0_0 a0_1 a0_2:Int):Option D:=
 zam (zaa [.agg [.int .i64 a0_0,.int .i64 a0_1,.int .i64 a0_2]]) fun r1=>
 asI .i64 r1 fun i2=>
 letN (IntKind.i64.wrap (i2*16)) fun n3=>
 some (.int .i64 n3)
theorem zlq (zaa:Zp) (a0_0 a0_1 a0_2:Int):denP Tryz.prog (zav [(ID.wattleref01_Width,(.pure [0] zaa))]) zfq [0] ID.wattleref01_Capacity [.agg [.int .i64 a0_0,.int .i64 a0_1,.int .i64 a0_2]]=zd9 zaa a0_0 a0_1 a0_2:=by kernel_rfl
theorem zi5 (a0_0 a0_1 a0_2:Int):zbb [.agg [.int .i64 a0_0,.int .i64 a0_1,.int .i64 a0_2]]=zd9 zaa a0_0 a0_1 a0_2:=zlq zaa a0_0 a0_1 a0_2
def ziH:Ann:={ loops:=[] }
noncomputable def zbY:Zp:=denP Tryz.prog (zav [(ID.wattleref01_Check,(.pure [0] zae)),(ID.wattleref01_Capacity,(.pure [0] zbb)),(ID.wattleref01_Width,(.pure [0] zaa)),(ID.wattleref01_Disk,(.pure [0] zaM))]) ziH [0,0,0] ID.wattleref01_Of
theorem znA:za3 Tryz.prog ID.wattleref01_Of (.pure [0,0,0] zbY):=zan (zax [zcO,zi4,zbM,zgL]) zbs ⟨Tryz.f20,by kernel_rfl,by kernel_rfl,by kernel_rfl⟩
noncomputable def zoH:Fact Tryz.prog:=⟨ID.wattleref01_Of,(.pure [0,0,0] zbY),znA⟩
noncomputable def zg0 (zae zbb zaa zaM:Zp) (a0_0 a0_1 a0_2 a1:Int):Option D:=
 zam (zae [.agg [.int .i64 a0_0,.int .i64 a0_1,.int .i64 a0_2]]) fun r1=>
 asB r1 fun b2=>
 brK (!b2)
  (some (.tup [.int .i64 0,.int .i64 0,.bool false]))
  (brK (decide (a1 < 0))
   (some (.tup [.int .i64 0,.int .i64 0,.bool false]))
   (zam (zbb [.agg [.int .i64 a0_0,.int .i64 a0_1,.int .i64 a0_2]]) fun r3=>
   asI .i64 r3 fun i4=>
   brK (decide (a1≥i4))
    (some (.tup [.int .i64 0,.int .i64 0,.bool false]))
    (sif (a0_2≠0) <|
    letN (IntKind.i64.wrap (Int.tdiv a1 a0_2)) fun n5=>
    zam (zaa [.agg [.int .i64 a0_0,.int .i64 a0_1,.int .i64 a0_2]]) fun r6=>
    asI .i64 r6 fun i7=>
    sif (i7≠0) <|
    letN (IntKind.i64.wrap (Int.tdiv n5 i7)) fun n8=>
    letN (IntKind.i64.wrap (n8*a0_2)) fun n9=>
    sif (a0_2≠0) <|
    letN (Int.tmod a1 a0_2) fun n10=>
    letN (IntKind.i64.wrap (n9+n10)) fun n11=>
    zam (zaa [.agg [.int .i64 a0_0,.int .i64 a0_1,.int .i64 a0_2]]) fun r12=>
    asI .i64 r12 fun i13=>
    sif (i13≠0) <|
    letN (Int.tmod n5 i13) fun n14=>
    zam (zaM [.agg [.int .i64 a0_0,.int .i64 a0_1,.int .i64 a0_2],.int .i64 n11,.int .i64 n14]) fun r15=>
    asI .i64 r15 fun i16=>
    some (.tup [.int .i64 i16,.int .i64 n11,.bool true]))))
theorem zrV (zae zbb zaa zaM:Zp) (a0_0 a0_1 a0_2 a1:Int):denP Tryz.prog (zav [(ID.wattleref01_Check,(.pure [0] zae)),(ID.wattleref01_Capacity,(.pure [0] zbb)),(ID.wattleref01_Width,(.pure [0] zaa)),(ID.wattleref01_Disk,(.pure [0] zaM))]) ziH [0,0,0] ID.wattleref01_Of [.agg [.int .i64 a0_0,.int .i64 a0_1,.int .i64 a0_2],.int .i64 a1]=zg0 zae zbb zaa zaM a0_0 a0_1 a0_2 a1:=by kernel_rfl
theorem zoI (a0_0 a0_1 a0_2 a1:Int):zbY [.agg [.int .i64 a0_0,.int .i64 a0_1,.int .i64 a0_2],.int .i64 a1]=zg0 zae zbb zaa zaM a0_0 a0_1 a0_2 a1:=zrV zae zbb zaa zaM a0_0 a0_1 a0_2 a1
def zfR:Ann:={ loops:=[(1,.dead::.val (.cell (.int .i64))::.box true [(.int .i64),(.int .i64),(.int .i64)]::dd 2 [.own 1,.val (.cell (.int .i64))])] }
noncomputable def za2:Zp:=denP Tryz.prog (zav [(ID.wattleref01_fine,(.pure [0] zak)),(ID.wattleref01_Width,(.pure [0] zaa))]) zfR [1] ID.wattleref01_Numbers
theorem zi6:za3 Tryz.prog ID.wattleref01_Numbers (.pure [1] za2):=zan (zax [zdA,zbM]) zbs ⟨Tryz.f25,by kernel_rfl,by kernel_rfl,by kernel_rfl⟩
noncomputable def zjP:Fact Tryz.prog:=⟨ID.wattleref01_Numbers,(.pure [1] za2),zi6⟩
noncomputable def zeu (zak zaa:Zp) (a0_0 a0_1 a0_2 a1:Int):Option D:=
 zam (zak [.agg [.int .i64 a0_0,.int .i64 a0_1,.int .i64 a0_2],.int .i64 a1]) fun r1=>
 asB r1 fun b2=>
 brK (!b2)
  (some (.sl .own []))
  (zca (α:=(Int×(Int×Int×Int×PUnit)×List D×Int×PUnit)×PUnit) (fun again3 ((i4,((i5,(i6,(i7,_))),(l8,(i9,_)))),_)=>
   zam (zaa [.agg [.int .i64 i5,.int .i64 i6,.int .i64 i7]]) fun r10=>
   asI .i64 r10 fun i11=>
   brK (decide (i9 < i11))
    (sif (i7≠0) <|
    letN (IntKind.i64.wrap (Int.tdiv i4 i7)) fun n12=>
    zam (zaa [.agg [.int .i64 i5,.int .i64 i6,.int .i64 i7]]) fun r13=>
    asI .i64 r13 fun i14=>
    letN (IntKind.i64.wrap (n12*i14)) fun n15=>
    letN (IntKind.i64.wrap (n15+i9)) fun n16=>
    letN (IntKind.i64.wrap (n16*i7)) fun n17=>
    sif (i7≠0) <|
    letN (Int.tmod i4 i7) fun n18=>
    letN (IntKind.i64.wrap (n17+n18)) fun n19=>
    sif (l8.length+1≤4294967296) <|
    sif (l8.length=l8.length) <|
    letN (IntKind.i64.wrap (i9+1)) fun n20=>
    sif (l8.length+1=List.length (l8++[D.int .i64 n19])) <|
    again3 (((i4,(i5,i6,i7,unit),l8++[.int .i64 n19],n20,unit),unit)))
    (sif (l8.length=l8.length) <|
    sif (List.all l8 D.free=true) <|
    some (.sl .own l8)))
   (((a1,(a0_0,a0_1,a0_2,unit),[],(0:Int),unit),unit)))
theorem zmA (zak zaa:Zp) (a0_0 a0_1 a0_2 a1:Int):denP Tryz.prog (zav [(ID.wattleref01_fine,(.pure [0] zak)),(ID.wattleref01_Width,(.pure [0] zaa))]) zfR [1] ID.wattleref01_Numbers [.agg [.int .i64 a0_0,.int .i64 a0_1,.int .i64 a0_2],.int .i64 a1]=zeu zak zaa a0_0 a0_1 a0_2 a1:=by kernel_rfl
theorem zjQ (a0_0 a0_1 a0_2 a1:Int):za2 [.agg [.int .i64 a0_0,.int .i64 a0_1,.int .i64 a0_2],.int .i64 a1]=zeu zak zaa a0_0 a0_1 a0_2 a1:=zmA zak zaa a0_0 a0_1 a0_2 a1
def zhh:Ann:={ loops:=[] }
noncomputable def zby:Zp:=denP Tryz.prog (zav [(ID.wattleref01_Width,(.pure [0] zaa)),(ID.wattleplay_Sectors,(.pure [1] zaF))]) zhh [1] ID.wattlelaw14_Data
theorem zlr:za3 Tryz.prog ID.wattlelaw14_Data (.pure [1] zby):=zan (zax [zbM,zfC]) zbs ⟨Tryz.f24,by kernel_rfl,by kernel_rfl,by kernel_rfl⟩
noncomputable def zmB:Fact Tryz.prog:=⟨ID.wattlelaw14_Data,(.pure [1] zby),zlr⟩
noncomputable def zfS (zaa zaF:Zp) (a0_0 a0_1 a0_2 a1:Int) (a2:List D):Option D:=
 letN (min a1 (↑(a2.length):Int)) fun n1=>
 sif (0≤n1) <|
 sif (n1≤(↑(a2.length):Int)) <|
 sif ((↑(a2.length):Int)≤(↑(a2.length):Int)) <|
 sif ((↑(a2.length):Int)=(↑(a2.length):Int)) <|
 sif (zsN (1:Nat) a2=true) <|
 zam (zaa [.agg [.int .i64 a0_0,.int .i64 a0_1,.int .i64 a0_2]]) fun r2=>
 asI .i64 r2 fun i3=>
 zam (zaF [.sl (zeb Tag.lent false (decide ((↑(a2.length):Int)=(↑(a2.length):Int)))) (cutI n1 (↑(a2.length):Int) a2),.int .i64 i3]) fun r4=>
 za7 r4 fun l5=>
 sif (l5.length=l5.length) <|
 sif (List.all l5 D.free=true) <|
 some (.sl .own l5)
theorem zpX (zaa zaF:Zp) (tga2:Tag) (a0_0 a0_1 a0_2 a1:Int) (a2:List D):denP Tryz.prog (zav [(ID.wattleref01_Width,(.pure [0] zaa)),(ID.wattleplay_Sectors,(.pure [1] zaF))]) zhh [1] ID.wattlelaw14_Data [.agg [.int .i64 a0_0,.int .i64 a0_1,.int .i64 a0_2],.int .i64 a1,.sl tga2 a2]=zfS zaa zaF a0_0 a0_1 a0_2 a1 (D.lentL a2):=by kernel_rfl
theorem zmC (tga2:Tag) (a0_0 a0_1 a0_2 a1:Int) (a2:List D):zby [.agg [.int .i64 a0_0,.int .i64 a0_1,.int .i64 a0_2],.int .i64 a1,.sl tga2 a2]=zfS zaa zaF a0_0 a0_1 a0_2 a1 (D.lentL a2):=zpX zaa zaF tga2 a0_0 a0_1 a0_2 a1 a2
def zfr:Ann:={ loops:=[(1,.val (.cell .lent)::.val (.cell .lent)::dd 3 [.val (.cell (.int .i64))])] }
noncomputable def zaA:Zp:=denP Tryz.prog (zav []) zfr [0] ID.wattlekeep_Same_byte
theorem zil:za3 Tryz.prog ID.wattlekeep_Same_byte (.pure [0] zaA):=zan (zax []) zbs ⟨Tryz.f22,by kernel_rfl,by kernel_rfl,by kernel_rfl⟩
noncomputable def ze2:Fact Tryz.prog:=⟨ID.wattlekeep_Same_byte,(.pure [0] zaA),zil⟩
noncomputable def zea (a0 a1:List D):Option D:=
 brK ((↑(a0.length):Int) != (↑(a1.length):Int))
  (some (.bool false))
  (zca (α:=(List D×List D×Int×PUnit)×PUnit) (fun again1 ((l2,(l3,(i4,_))),_)=>
   brK (decide (i4 < (↑(l2.length):Int)))
    (sif (0≤i4) <|
    getK l2 (i4.toNat) fun d5=>
    asI .u8 d5 fun i6=>
    sif (0≤i4) <|
    getK l3 (i4.toNat) fun d7=>
    asI .u8 d7 fun i8=>
    brK (i6 != i8)
     (some (.bool false))
     (letN (IntKind.i64.wrap (i4+1)) fun n9=>
     again1 (((l2,l3,n9,unit),unit))))
    (some (.bool true)))
   (((a0,a1,(0:Int),unit),unit)))
theorem zls (tga0 tga1:Tag) (a0 a1:List D):denP Tryz.prog (zav []) zfr [0] ID.wattlekeep_Same_byte [.sl tga0 a0,.sl tga1 a1]=zea (D.lentL a0) (D.lentL a1):=by kernel_rfl
theorem zi7 (tga0 tga1:Tag) (a0 a1:List D):zaA [.sl tga0 a0,.sl tga1 a1]=zea (D.lentL a0) (D.lentL a1):=zls tga0 tga1 a0 a1
def zgU:Ann:={ loops:=[],ks:=[(2496,true),(8225,true)] }
noncomputable def zbp:Zp:=denT Tryz.prog (zav [(ID.bench_New,(.st [] [0,0] [(2496,true),(8225,true)] zbL)),(ID.window_Read,(.st [] [1,0] [(2496,false),(8225,false)] za6)),(ID.wattlekeep_Same_byte,(.pure [0] zaA))]) zgU [0] ID.wattlelaw20_wakes
theorem zkJ:za3 Tryz.prog ID.wattlelaw20_wakes (.pure [0] zbp):=zvh (zax [znH,zkU,ze2]) zbs ⟨Tryz.f44,by kernel_rfl,by kernel_rfl,by kernel_rfl⟩
noncomputable def zlt:Fact Tryz.prog:=⟨ID.wattlelaw20_wakes,(.pure [0] zbp),zkJ⟩
noncomputable def zfk (zbL za6:Zs) (zaA:Zp):Option D:=
 zam (zbL [.int .i64 4] [[],[]]) fun r1=>
 nilK r1.outs <|
 zdd r1.tbs fun c2 q3=>
 zdd q3 fun c4 q5=>
 nilK q5 <|
 zdi r1.r fun ts6=>
 zaw ([Lf.any,Lf.any]) ts6 fun c7=>
 sif (zhO c7.1=true) <|
 asI .i64 c7.2.1 fun i8=>
 brK (i8 != 0)
  (some (.bool false))
  (zp9 c7.1 fun b9=>
  brK b9
   (some (.bool false))
   (zam (za6 [c7.1,.sl .full [.bool true,.bool true,.bool true,.bool true],.agg [.int .i64 5,.int .i64 3,.int .i64 1],.agg [.int .i64 5,.int .i64 4,.int .i64 1],.int .i64 15] [c2,c4]) fun r10=>
   nilK r10.outs <|
   nilK r10.tbs <|
   zdi r10.r fun ts11=>
   zaw ([Lf.any,Lf.any]) ts11 fun c12=>
   za7 c12.1 fun l13=>
   asI .i64 c12.2.1 fun i14=>
   brK (i14 == 0)
    (sif (0+l13.length≤l13.length) <|
    brK ((↑(l13.length):Int) == 3)
     (sif ((2:Nat) < l13.length) <|
     getK l13 ((2:Nat)) fun d15=>
     asSl d15 fun t16 l17=>
     zam (zaA [.sl t16 l17,.sl .lent [.int .u8 0,.int .u8 0,.int .u8 0,.int .u8 0,.int .u8 0,.int .u8 0,.int .u8 0,.int .u8 0,.int .u8 0,.int .u8 0,.int .u8 0,.int .u8 0,.int .u8 0,.int .u8 0,.int .u8 0,.int .u8 0,.int .u8 0,.int .u8 0,.int .u8 0,.int .u8 0,.int .u8 0,.int .u8 0,.int .u8 0,.int .u8 0,.int .u8 0,.int .u8 0,.int .u8 0,.int .u8 0,.int .u8 0,.int .u8 0,.int .u8 0,.int .u8 0]]) fun r18=>
     asB r18 fun b19=>
     some (.bool b19))
     (some (.bool false)))
    (some (.bool false))))
theorem zoJ (zbL za6:Zs) (zaA:Zp):denT Tryz.prog (zav [(ID.bench_New,(.st [] [0,0] [(2496,true),(8225,true)] zbL)),(ID.window_Read,(.st [] [1,0] [(2496,false),(8225,false)] za6)),(ID.wattlekeep_Same_byte,(.pure [0] zaA))]) zgU [0] ID.wattlelaw20_wakes []=sif (D.nohL []=true) (zfk zbL za6 zaA ):=by kernel_rfl
theorem zlu:zbp []=sif (D.nohL []=true) (zfk zbL za6 zaA ):=zoJ zbL za6 zaA
def ziI:Ann:={ loops:=[],ks:=[(8225,true)] }
noncomputable def zcm:Zs:=denS Tryz.prog (zav []) ziI [] ID.disk_Disk_Fail
noncomputable def zg1 (a0:Nat) (T0:Tb):Option Ans:=
 getK T0 a0 fun d1=>
 sif (1666≤d1.length) <|
 letT (zaU T0 a0 (0:Nat) (List.map D.own0 (List.set (List.reverse ([.bool false,.sl .nil []]++List.replicate 1664 (.int .u8 0))) (1665:Nat) (.bool true)))) fun U2=>
 some (Ans.mk (.tup []) [] [U2])
theorem zrW (a0:Nat) (T0:Tb):denS Tryz.prog (zav []) ziI [] ID.disk_Disk_Fail [.h 8225 a0 0] [T0]=zg1 a0 T0:=by kernel_rfl
theorem zoK (a0:Nat) (T0:Tb):zcm [.h 8225 a0 0] [T0]=zg1 a0 T0:=zrW a0 T0
def zhi:Ann:={ loops:=[],ks:=[(2496,false),(8225,true)] }
noncomputable def zfT:Zs:=denS Tryz.prog (zav [(ID.bench_Bench_is,(.st [] [0] [(2496,false)] zar)),(ID.disk_Disk_Fail,(.st [] [] [(8225,true)] zcm))]) zhi [0] ID.bench_Bench_Fail
noncomputable def zfU (zar zcm:Zs) (a0:Nat) (a1:Int) (T0 T1:Tb):Option Ans:=
 zam (zar [.h 2496 a0 0,.int .i64 a1] [T0]) fun r1=>
 nilK r1.outs <|
 nilK r1.tbs <|
 asB r1.r fun b2=>
 brK (!b2)
  (some (Ans.mk (.int .i64 1) [] [T1]))
  (getK T0 a0 fun d3=>
  getK d3 ((3:Nat)) fun d4=>
  za7 d4 fun l5=>
  getK T0 a0 fun d6=>
  getK d6 ((3:Nat)) fun d7=>
  za7 d7 fun l8=>
  sif (0≤a1) <|
  sif (a1.toNat < l5.length) <|
  getK T0 a0 fun d9=>
  getK d9 ((3:Nat)) fun d10=>
  za7 d10 fun l11=>
  getK l11 (0+a1.toNat) fun d12=>
  sif (D.isAgg d12=false) <|
  sif (D.width d12=(1:Nat)) <|
  sif (D.cell d12=true) <|
  zam (zcm [d12] [T1]) fun r13=>
  nilK r13.outs <|
  zdd r13.tbs fun c14 q15=>
  nilK q15 <|
  zdi r13.r fun ts16=>
  nilK ts16 <|
  some (Ans.mk (.int .i64 0) [] [c14]))
theorem zpY (zar zcm:Zs) (a0:Nat) (a1:Int) (T0 T1:Tb):denS Tryz.prog (zav [(ID.bench_Bench_is,(.st [] [0] [(2496,false)] zar)),(ID.disk_Disk_Fail,(.st [] [] [(8225,true)] zcm))]) zhi [0] ID.bench_Bench_Fail [.h 2496 a0 0,.int .i64 a1] [T0,T1]=zfU zar zcm a0 a1 T0 T1:=by kernel_rfl
theorem zmD (a0:Nat) (a1:Int) (T0 T1:Tb):zfT [.h 2496 a0 0,.int .i64 a1] [T0,T1]=zfU zar zcm a0 a1 T0 T1:=zpY zar zcm a0 a1 T0 T1
def zfV:Ann:={ loops:=[(0,dd 3 (.val (.cell (.int .i64))::dd 5 [.view 2496 3,.val (.cell (.int .i64)),.val (.cell (.int .i64))]))],ks:=[(2496,false),(8225,false)] }
noncomputable def zev:Zs:=denS Tryz.prog (zav [(ID.disk_Disk_Pending,(.st [] [0] [(8225,false)] zaK))]) zfV [0] ID.bench_Bench_Pending
noncomputable def zew (zaK:Zs) (a0:Nat) (T0 T1:Tb):Option Ans:=
 getK T0 a0 fun d1=>
 getK d1 ((3:Nat)) fun d2=>
 za7 d2 fun l3=>
 getK T0 a0 fun d4=>
 getK d4 ((3:Nat)) fun d5=>
 za7 d5 fun l6=>
 sif (0+l3.length≤l6.length) <|
 zca (α:=(Int×(Nat×Nat×Nat)×Int×Int×PUnit)×List (List D)×List (List D)×PUnit) (fun again7 ((i8,((x9,(x10,x11)),(i12,(i13,_)))),(U14,(U15,_)))=>
  brK (decide (i13 < i12))
   (getK U14 x9 fun d16=>
   getK d16 ((3:Nat)) fun d17=>
   za7 d17 fun l18=>
   sif (0≤i13) <|
   sif (i13.toNat < x11) <|
   getK U14 x9 fun d19=>
   getK d19 ((3:Nat)) fun d20=>
   za7 d20 fun l21=>
   getK l21 (x10+i13.toNat) fun d22=>
   sif (D.isAgg d22=false) <|
   sif (D.width d22=(1:Nat)) <|
   sif (D.cell d22=true) <|
   zam (zaK [d22] [U15]) fun r23=>
   nilK r23.outs <|
   nilK r23.tbs <|
   asI .i64 r23.r fun i24=>
   letN (IntKind.i64.wrap (i8+i24)) fun n25=>
   letN (IntKind.i64.wrap (i13+1)) fun n26=>
   again7 (((n25,(x9,x10,x11),i12,n26,unit),U14,U15,unit)))
   (some (Ans.mk (.int .i64 i8) [] [])))
  ((((0:Int),(a0,(0:Nat),l3.length),(↑(l3.length):Int),(0:Int),unit),T0,T1,unit))
theorem zmE (zaK:Zs) (a0:Nat) (T0 T1:Tb):denS Tryz.prog (zav [(ID.disk_Disk_Pending,(.st [] [0] [(8225,false)] zaK))]) zfV [0] ID.bench_Bench_Pending [.h 2496 a0 0] [T0,T1]=zew zaK a0 T0 T1:=by kernel_rfl
theorem zjR (a0:Nat) (T0 T1:Tb):zev [.h 2496 a0 0] [T0,T1]=zew zaK a0 T0 T1:=zmE zaK a0 T0 T1
end Wf

namespace Wf
open Go Go.RowKit Go.Proofs
set_option linter.unusedSimpArgs false
set_option linter.unusedVariables false
theorem zyA (c:Int):zaX [.sl .full [.int .i64 1,.int .i64 2,.int .i64 4],.int .i64 c]=some (.bool (c == 1 || c == 2 || c == 4)):=by
 rw [zhs];unfold zdF;rw [ziQ];unfold zd8;obtain ⟨m,hm⟩:=zyf
 by_cases h1:c=1<;>by_cases h2:c=2<;>by_cases h4:c=4<;>
  simp [zca,hm,fixN,zb5,h1,h2,h4,zah]<;>omega
theorem zgt (l d c:Int):zao [gD l d c]=some (iD (if zdU l d c then 0 else 1)):=by
 rw [ztr];unfold zl8;have hc:=zyA c;unfold zdU;obtain ⟨q,hq⟩:∃ q,(c == 1 || c == 2 || c == 4)=q:=⟨_,rfl⟩;rw [hq] at hc ⊢
 by_cases h5:l=5
 ·subst h5
  by_cases h3:d < 3<;>by_cases h8:8 < d<;>cases q<;>simp [zBC,zje,setD,hc,zb5,h3,h8]<;>omega
 ·by_cases h6:l=6
  ·subst h6
   by_cases h3:d < 4<;>by_cases h8:8 < d<;>cases q<;>simp [zBC,zje,setD,hc,zb5,h3,h8]<;>omega
  ·simp [zBC,zje,setD,hc,zb5,h5,h6]
theorem ztN (l d c:Int):zbx [gD l d c]=some (iD (zoa l d c)):=by
 rw [zrE];unfold zkt zoa;rw [zgt];cases h:zdU l d c
 ·simp [zb5]
 ·have:=zfA.1 h;simp [zb5]
  exact zah (by omega) (by omega)
theorem zm0 (l d c:Int):zaf [gD l d c]=some (iD (zgG l d c)):=by
 rw [zts];unfold zma zgG;rw [zgt,ztN];unfold zoa;cases h:zdU l d c
 ·simp [zb5]
 ·have:=zfA.1 h;simp [zb5]
  exact zah (by omega) (by omega)
theorem zw1 (l d c:Int):zaZ [gD l d c]=some (iD (capG l d c)):=by
 rw [zpC];unfold zh1 capG;rw [zm0];have:=zFf l d c;simp
 exact zah (by omega) (by omega)
theorem zjS (l d c:Int):zae [gD l d c]=some (.bool (zdU l d c)):=by
 rw [zk2];unfold ze9 zdU
 by_cases h5:l=5
 ·subst h5
  by_cases h3:3≤d<;>by_cases h8:d≤8<;>simp [zb5,h3,h8]<;>by_cases h1:c=1<;>by_cases h2:c=2<;>simp [h1,h2]<;>omega
 ·by_cases h6:l=6
  ·subst h6
   by_cases h3:4≤d<;>by_cases h8:d≤8<;>simp [zb5,h3,h8]<;>by_cases h1:c=1<;>by_cases h2:c=2<;>simp [h1,h2]<;>omega
  ·simp [zb5,h5,h6]
theorem zvv (l d c:Int):zaE [gD l d c]=some (iD (zoa l d c)):=by
 rw [zkh];unfold zeM zoa;rw [zjS];cases h:zdU l d c
 ·simp [zb5]
 ·have:=zfA.1 h;simp [zb5]
  exact zah (by omega) (by omega)
theorem ztO (l d c:Int):zaa [gD l d c]=some (iD (zgG l d c)):=by
 rw [zk3];unfold zfa zgG;rw [zjS,zvv];unfold zoa;cases h:zdU l d c
 ·simp [zb5]
 ·have:=zfA.1 h;simp [zb5]
  exact zah (by omega) (by omega)
theorem zA2 (a n:Int) (h:1≤n) (h9:n < 1000000000):zad [.int .i64 a,.int .i64 n]=some (iD (a % n)):=by
 rw [zk1];unfold ze8;have hm:=zBP a n h
 have hlt:=Int.lt_tmod_of_pos a (show 0 < n by omega)
 have h1:¬ n < 1:=by omega
 have h0:n≠0:=by omega
 rcases hm with ⟨k1,k2⟩ | ⟨k1,k2⟩
 ·simp [zb5,h1,h0,Int.not_lt.2 k1,k2]
 ·simp [zb5,h1,h0,k1,k2]
  exact zah (by omega) (by omega)
theorem zjT (g:Geo):zaf [gD g.l g.d g.c]=some (iD g.width):=zm0 ..
theorem zDM (g:Geo):zaZ [gD g.l g.d g.c]=some (iD g.cap):=zw1 ..
theorem zm1 (g:Geo):zaa [gD g.l g.d g.c]=some (iD g.width):=ztO ..
section
variable (a b c x y z k:Int)
end
section
variable (g:Geo) (a row k:Int)
theorem zw2:zbD [g.D,.int .i64 row]=some (.bool (zcF g row)):=by
 unfold Geo.D;rw [zwG];unfold zqx;rw [zgt];unfold zcF Geo.ok;cases zdU g.l g.d g.c<;>simp [zb5]<;>(by_cases h:0≤row<;>simp [h])
theorem zr8:zak [g.D,.int .i64 row]=some (.bool (zcF g row)):=by
 unfold Geo.D;rw [zlX];unfold zfD;rw [zjS];unfold zcF Geo.ok;cases zdU g.l g.d g.c<;>simp [zb5]<;>(by_cases h:0≤row<;>simp [h])
theorem zyB:zaN [g.D,.int .i64 row]=some (.tup [iD (parP g row).1,iD (parP g row).2]):=by
 have hi:=zw2 g row;unfold Geo.D at*;rw [zqy];unfold ziU;rw [hi];unfold parP;cases h:zcF g row
 ·simp [zb5]
 ·obtain ⟨hk,h0,h1⟩:=zbH.1 h;have hd:=ok_d hk;have hv:=zFg hk h0;have hp:=znG hk row
  have w1:IntKind.i64.wrap (g.d - 1)=g.d - 1:=zah (by omega) (by omega)
  have w2:IntKind.i64.wrap (row.tdiv g.c)=row / g.c:=by rw [zyi hk h0]; exact zah (by omega) (by omega)
  have w3:IntKind.i64.wrap (g.d - 1 - (row / g.c).tmod g.d)=parA g row:=by rw [zlT hv.1]; exact zah (by unfold parA at hp; omega) (by unfold parA at hp; omega)
  have w4:IntKind.i64.wrap (parA g row+1)=parA g row+1:=zah (by omega) (by omega)
  have t4:(parA g row+1).tmod g.d=(parA g row+1) % g.d:=zlT (by omega)
  by_cases h5:g.l=5
  ·simp [zb5,show g.c≠0 by omega,show g.d≠0 by omega,w1,w2,w3,h5]
  ·simp [zb5,show g.c≠0 by omega,show g.d≠0 by omega,w1,w2,w3,h5,w4,t4]
theorem zDN:zaD [g.D,.int .i64 row]=some (.tup [iD (parP g row).1,iD (parP g row).2]):=by
 have hi:=zr8 g row;unfold Geo.D at*;rw [zkl];unfold zeP;rw [hi];unfold parP;cases h:zcF g row
 ·simp [zb5]
 ·obtain ⟨hk,h0,h1⟩:=zbH.1 h;have hd:=ok_d hk;have hv:=zFg hk h0;have hp:=znG hk row
  have w1:IntKind.i64.wrap (g.d - 1)=g.d - 1:=zah (by omega) (by omega)
  have w2:IntKind.i64.wrap (row.tdiv g.c)=row / g.c:=by rw [zyi hk h0]; exact zah (by omega) (by omega)
  have w3:IntKind.i64.wrap (g.d - 1 - (row / g.c).tmod g.d)=parA g row:=by rw [zlT hv.1]; exact zah (by unfold parA at hp; omega) (by unfold parA at hp; omega)
  have w4:IntKind.i64.wrap (parA g row+1)=parA g row+1:=zah (by omega) (by omega)
  have t4:(parA g row+1).tmod g.d=(parA g row+1) % g.d:=zlT (by omega)
  by_cases h5:g.l=5
  ·simp [zb5,show g.c≠0 by omega,show g.d≠0 by omega,w1,w2,w3,h5]
  ·simp [zb5,show g.c≠0 by omega,show g.d≠0 by omega,w1,w2,w3,h5,w4,t4]
theorem zvw:za1 [g.D,.int .i64 row,.int .i64 k]=some (iD (zde g row k)):=by
 have hi:=zw2 g row;have hp:=zyB g row;unfold Geo.D at*;rw [ztx];unfold zmd;rw [hi,hp,zjT,ztN];unfold zde;cases h:zcF g row
 ·simp [zb5]
 ·obtain ⟨hk,h0,h1⟩:=zbH.1 h;have hd:=ok_d hk;have hw:=zbZ hk;have hb:=zyh hk;have hl:=zdN.1 hk;have hpa:=znG hk row
  by_cases k0:k < 0
  ·simp [zb5,k0,show ¬ 0≤k by omega]
  ·by_cases k1:g.width≤k
   ·simp [zb5,k0,k1,show ¬ k < g.width by omega]
   ·have w1:IntKind.i64.wrap (parA g row+(g.l - 4))=parA g row+(g.l - 4):=zah (by omega) (by omega)
    have w2:IntKind.i64.wrap (parA g row+(g.l - 4)+k)=parA g row+(g.l - 4)+k:=zah (by omega) (by omega)
    have t2:(parA g row+(g.l - 4)+k).tmod g.d=(parA g row+(g.l - 4)+k) % g.d:=zlT (by omega)
    have hp1:(parP g row).1=parA g row:=by unfold parP; simp [h]
    simp [zb5,k0,k1,show 0≤k by omega,show k < g.width by omega,hb,hp1,w1,w2,t2,show g.d≠0 by omega]
theorem zFu:zaM [g.D,.int .i64 row,.int .i64 k]=some (iD (zde g row k)):=by
 have hi:=zr8 g row;have hp:=zDN g row;unfold Geo.D at*;rw [zlY];unfold zfF;rw [hi,hp,zm1,zvv];unfold zde;cases h:zcF g row
 ·simp [zb5]
 ·obtain ⟨hk,h0,h1⟩:=zbH.1 h;have hd:=ok_d hk;have hw:=zbZ hk;have hb:=zyh hk;have hl:=zdN.1 hk;have hpa:=znG hk row
  by_cases k0:k < 0
  ·simp [zb5,k0,show ¬ 0≤k by omega]
  ·by_cases k1:g.width≤k
   ·simp [zb5,k0,k1,show ¬ k < g.width by omega]
   ·have w1:IntKind.i64.wrap (parA g row+(g.l - 4))=parA g row+(g.l - 4):=zah (by omega) (by omega)
    have w2:IntKind.i64.wrap (parA g row+(g.l - 4)+k)=parA g row+(g.l - 4)+k:=zah (by omega) (by omega)
    have t2:(parA g row+(g.l - 4)+k).tmod g.d=(parA g row+(g.l - 4)+k) % g.d:=zlT (by omega)
    have hp1:(parP g row).1=parA g row:=by unfold parP; simp [h]
    simp [zb5,k0,k1,show 0≤k by omega,show k < g.width by omega,hb,hp1,w1,w2,t2,show g.d≠0 by omega]
theorem zFv:zdg [g.D,.int .i64 a]=some (ofD (ofP g a)):=by
 have hdk:=fun row k=>zvw g row k
 unfold Geo.D at*;rw [zwI];unfold zqz;rw [zjT,zDM];unfold ofP ofD
 by_cases h0:a < 0
 ·simp [zb5,h0,show ¬ 0≤a by omega]
 ·by_cases h1:g.cap≤a
  ·simp [zb5,h0,h1,show ¬ a < g.cap by omega]
  ·have h0:0≤a:=by omega
   have h1:a < g.cap:=by omega
   have hk:=ztj h0 h1;have hd:=ok_d hk;have hw:=zbZ hk;have hv:=zFg hk h0;have hr:=zpl h0 h1;have hca:g.cap=g.width*16:=rfl;have hvw:a / g.c / g.width≤a / g.c:=Int.ediv_le_self _ hv.1
   have w1:IntKind.i64.wrap (a.tdiv g.c)=a / g.c:=by rw [zyi hk h0]; exact zah (by omega) (by omega)
   have w2:IntKind.i64.wrap ((a / g.c).tdiv g.width)=a / g.c / g.width:=by rw [Int.tdiv_eq_ediv_of_nonneg hv.1]; exact zah (by omega) (by omega)
   have hm:0≤a / g.c / g.width*g.c:=Int.mul_nonneg hr.2.2.1 (by omega)
   have w3:IntKind.i64.wrap (a / g.c / g.width*g.c)=a / g.c / g.width*g.c:=zah (by omega) (by omega)
   have w4:IntKind.i64.wrap (a / g.c / g.width*g.c+a.tmod g.c)=rowG g a:=by rw [zlT h0]; exact zah (by omega) (by omega)
   have t5:(a / g.c).tmod g.width=zds g a:=zlT hv.1
   simp [zb5,h0,h1,show ¬ a < 0 by omega,show ¬ g.cap≤a by omega,w1,w2,w3,w4,t5,show g.c≠0 by omega,show g.width≠0 by omega,hdk]
end
section
variable (l d c a row k:Int)
end
section
variable (g:Geo) (row k:Int)
theorem zyC (h:zcF g row=true) (k0:0≤k) (k1:k≤8):zcl [gD g.l g.d g.c,.int .i64 row,.int .i64 k]=some (iD (numP g row k)):=by
 obtain ⟨hk,h0,h1⟩:=zbH.1 h;obtain ⟨w1,w2,w3,w4,w5⟩:=zDH hk h0 h1 k0 k1;have hd:=ok_d hk;rw [zqK];unfold ziY;rw [zjT]
 simp [show g.c≠0 by omega,w1,w2,w3,w4,w5]
theorem zBY:za5 [g.D,.int .i64 row]=some (.sl .own (zrB g row)):=by
 have hi:=zw2 g row;unfold Geo.D at*;rw [zpS];unfold zia;rw [hi,zjT];unfold zrB;cases h:zcF g row
 ·simp [zb5]
 ·obtain ⟨hk,h0,h1⟩:=zbH.1 h;have hw:=zbZ hk;simp only [zac,zcn,zb5,iD,zaY,Bool.not_true,Bool.false_eq_true,if_false,if_true]
  refine zgd (fun a=>(g.width - a.1.2.2.2.2.1).toNat) (fun _=>some (D.sl Tag.own (numD g row g.width.toNat))) (fun a=>∃ n:Nat,n≤g.width∧
   a=((row,(g.l,g.d,g.c,PUnit.unit),numD g row n,g.width,(n:Int),PUnit.unit),PUnit.unit)) ?_ ⟨0,by omega,rfl⟩ ?_
  rotate_left
  ·simp; omega
  rintro again _ ⟨n,hn,rfl⟩ ih
  dsimp only
  by_cases hl:(n:Int) < g.width
  ·have:=ih _ ⟨n+1,by omega,rfl⟩ (by dsimp only; omega)
   have wn:IntKind.i64.wrap ((n:Int)+1)=(n:Int)+1:=zah (by omega) (by omega)
   rw [zyj] at this
   simp [hl,zyC g row n h (by omega) (by omega),zgx,wn,show n+1≤4294967296 by omega]
   simpa using this
  ·have hnw:g.width.toNat=n:=by omega
   simp only [hl,decide_false,hnw,Bool.false_eq_true,if_false];simp [zgx,zyk]
theorem zFw:za2 [g.D,.int .i64 row]=some (.sl .own (zrB g row)):=by
 have hi:=zr8 g row;unfold Geo.D at*;rw [zjQ];unfold zeu;rw [hi];unfold zrB;cases h:zcF g row
 ·simp [zb5]
 ·obtain ⟨hk,h0,h1⟩:=zbH.1 h;have hw:=zbZ hk;have hd:=ok_d hk;simp only [zac,zcn,zb5,iD,zaY,Bool.not_true,Bool.false_eq_true,if_false,if_true]
  refine zgd (fun a=>(g.width - a.1.2.2.2.1).toNat) (fun _=>some (D.sl Tag.own (numD g row g.width.toNat))) (fun a=>∃ n:Nat,n≤g.width∧
   a=((row,(g.l,g.d,g.c,PUnit.unit),numD g row n,(n:Int),PUnit.unit),PUnit.unit)) ?_ ⟨0,by omega,rfl⟩ ?_
  rotate_left
  ·simp; omega
  rintro again _ ⟨n,hn,rfl⟩ ih
  dsimp only;rw [zm1]
  by_cases hl:(n:Int) < g.width
  ·have:=ih _ ⟨n+1,by omega,rfl⟩ (by dsimp only; omega)
   have wn:IntKind.i64.wrap ((n:Int)+1)=(n:Int)+1:=zah (by omega) (by omega)
   obtain ⟨w1,w2,w3,w4,w5⟩:=zDH hk h0 h1 (show 0≤(n:Int) by omega) (by omega)
   rw [zyj] at this
   simp [hl,w1,w2,w3,w4,w5,zgx,wn,show n+1≤4294967296 by omega,show g.c≠0 by omega]
   simpa using this
  ·have hnw:g.width.toNat=n:=by omega
   simp only [hl,decide_false,hnw,Bool.false_eq_true,if_false,zac,iD,zaY];simp [zgx,zyk]
end
section
variable (l d c row k:Int)
end
end Wf

namespace Wf
open Go Go.RowKit Go.Proofs
set_option linter.unusedSimpArgs false
set_option linter.unusedVariables false
theorem zFx (l d c x y z:Int):zdv [gD l d c,gD x y z]=some (.bool (canG l d c x y z)):=by
 rw [zwF];unfold zqv canG;rw [zgt,zgt,zm0,zm0];cases h:zdU l d c<;>cases k:zdU x y z<;>simp [zb5]
 by_cases h1:l=x<;>by_cases h2:d=y<;>by_cases h3:c=z<;>by_cases h4:d≤y<;>by_cases h5:l≤x<;>simp [h1,h2,h3,h4,h5]<;>omega
theorem zzV (l d c x y z:Int):zay [gD l d c,gD x y z]=some (.bool (canG l d c x y z)):=by
 rw [zm9];unfold zgg canG;rw [zjS,zjS,ztO,ztO];cases h:zdU l d c<;>cases k:zdU x y z<;>simp [zb5]
 by_cases h1:l=x<;>by_cases h2:d=y<;>by_cases h3:c=z<;>by_cases h4:d≤y<;>by_cases h5:l≤x<;>simp [h1,h2,h3,h4,h5]<;>omega
theorem zDO (m n:Int):∃ x y:Geo,zbR [.int .i64 m,.int .i64 n]=some (.tup [x.D,y.D])∧x.can y=true∧x.d≤5∧y.d≤8:=by
 rw [znb];unfold zgh;have e2:IntKind.i64.wrap (m.tdiv 2)=qn m 2:=rfl;have e6:IntKind.i64.wrap (m.tdiv 6)=qn m 6:=rfl;have e3:IntKind.i64.wrap (n.tdiv 3)=qn n 3:=rfl;have e9:IntKind.i64.wrap (n.tdiv 9)=qn n 9:=rfl
 have w3:IntKind.i64.wrap (3+m % 2)=3+m % 2:=zah (by omega) (by omega)
 have w4:IntKind.i64.wrap (4+m % 2)=4+m % 2:=zah (by omega) (by omega)
 have w31:IntKind.i64.wrap (3+m % 2+1)=3+m % 2+1:=zah (by omega) (by omega)
 have w3n:IntKind.i64.wrap (3+m % 2+n % 3)=3+m % 2+n % 3:=zah (by omega) (by omega)
 have w4n:IntKind.i64.wrap (4+m % 2+n % 3)=4+m % 2+n % 3:=zah (by omega) (by omega)
 have w3n1:IntKind.i64.wrap (3+m % 2+n % 3+1)=3+m % 2+n % 3+1:=zah (by omega) (by omega)
 have w4n1:IntKind.i64.wrap (4+m % 2+n % 3+1)=4+m % 2+n % 3+1:=zah (by omega) (by omega)
 have wmx:IntKind.i64.wrap (max (3+m % 2+n % 3) (3+m % 2+1)+1)=max (3+m % 2+n % 3) (3+m % 2+1)+1:=zah (by omega) (by omega)
 have h0:0≤qn m 2 % 3:=by omega
 have h3:qn m 2 % 3 < 3:=by omega
 have k0:0≤qn n 3 % 3:=by omega
 have k3:qn n 3 % 3 < 3:=by omega
 simp only [zA2 _ _ (show (1:Int)≤2 by decide) (show (2:Int) < 1000000000 by decide),zA2 _ _ (show (1:Int)≤3 by decide) (show (3:Int) < 1000000000 by decide),zA2 _ _ (show (1:Int)≤4 by decide) (show (4:Int) < 1000000000 by decide),
  zac,iD,zaY,zaH,e2,e6,e3,e9,w3,w4,w31,w3n,w4n,w3n1,w4n1,wmx,zab h0,zab k0,zAW _ h0 h3,zAW _ k0 k3,zzV,zcn]
 obtain ⟨a,ha⟩:∃ a,(if qn m 2 % 3=0 then (1:Int) else if qn m 2 % 3=1 then 2 else 4)=a:=⟨_,rfl⟩
 obtain ⟨b,hb⟩:∃ a,(if qn n 3 % 3=0 then (1:Int) else if qn n 3 % 3=1 then 2 else 4)=a:=⟨_,rfl⟩
 have ha':a=1∨a=2∨a=4:=by rw [←ha]; (repeat' split)<;>simp
 have hb':b=1∨b=2∨b=4:=by rw [←hb]; (repeat' split)<;>simp
 rw [ha,hb]
 have hm:m % 2=0∨m % 2=1:=by omega
 have hn:n % 3=0∨n % 3=1∨n % 3=2:=by omega
 clear e2 e6 e3 e9 w3 w4 w31 w3n w4n w3n1 w4n1 wmx h0 h3 k0 k3 ha hb;generalize m % 2=p at*;generalize n % 3=q at*;generalize qn m 6 % 4=s1 at*;generalize qn n 9 % 2=s2 at*
 have key:∀ (l l' d d':Int),3≤d→d≤5→d≤d'→d'≤7→(l=5∨l=6∧4≤d)→(l'=l∨l=5∧l'=6∧d < d')→
   ∃ x y:Geo,brK (!canG l d a l' d' b) (some (D.tup [gD l d a,gD l' (d'+1) b])) (some (D.tup [gD l d a,gD l' d' b]))=some (.tup [x.D,y.D])∧x.can y=true∧x.d≤5∧y.d≤8:=by
  intro l l' d d' h1 h2 h3 h4 h5 h6
  have v1:zdU l d a=true:=by rw [zfA]; omega
  have v2:zdU l' d' b=true:=by rw [zfA]; omega
  have v3:zdU l' (d'+1) b=true:=by rw [zfA]; omega
  cases hc:canG l d a l' d' b
  ·refine ⟨⟨l,d,a⟩,⟨l',d'+1,b⟩,rfl,zkd.2 ⟨v1,v3,?_,?_,?_,?_⟩,h2,by dsimp only; omega⟩
   ·simp only [ne_eq,Geo.mk.injEq]; omega
   ·dsimp only; omega
   ·dsimp only; omega
   ·simp only [zgG,v1,v3,if_true]; omega
  ·exact ⟨⟨l,d,a⟩,⟨l',d',b⟩,rfl,hc,h2,by dsimp only; omega⟩
 by_cases q1:s1=3
 ·rw [show (s1 == 3)=true from by simp [q1],za0]
  have:=key 6 6 (4+p) (4+p+q) (by omega) (by omega) (by omega) (by omega) (by omega) (by omega)
  exact this
 ·rw [show (s1 == 3)=false from by simpa using q1,zat]
  by_cases q2:s2=1
  ·rw [show (s2 == 1)=true from by simp [q2],za0]
   have:=key 5 6 (3+p) (max (3+p+q) (3+p+1)) (by omega) (by omega) (by omega) (by omega) (by omega) (by omega)
   exact this
  ·rw [show (s2 == 1)=false from by simpa using q2,zat]
   have:=key 5 5 (3+p) (3+p+q) (by omega) (by omega) (by omega) (by omega) (by omega) (by omega)
   exact this
theorem ztP (x y:Geo):zbe [x.D,y.D]=some (iD (zaT x y)):=by
 unfold Geo.D;rw [zuh];unfold zoo;rw [zFx];show zam (some (D.bool (x.can y))) _=_;cases h:x.can y
 ·simp [zb5,zob h]
 ·simp [zb5,zlS h]
theorem zrt (x y:Geo):zbd [x.D,y.D]=some (iD (winP x y)):=by
 have hr:=ztP x y;unfold Geo.D at*;rw [zqw];unfold ziT;rw [hr];cases h:x.can y
 ·simp [zb5,zob h]
 ·obtain ⟨h1,h2⟩:=zlS h;obtain ⟨h3,h4,h5⟩:=zyg h;rw [h3];rcases h2 with e | e | e<;>rw [e]<;>simp [zb5]<;>rfl
theorem zDP (x y:Geo) (k:Int):zb2 [x.D,y.D,.int .i64 k]=some (.tup [iD (zbF x y k).1,iD (zbF x y k).2]):=by
 have hr:=ztP x y;have hw:=zrt x y;unfold Geo.D at*;rw [zuj];unfold zop zbF;rw [hr,hw,zjT]
 by_cases h0:k < 0
 ·simp [h0]
 ·by_cases h1:winP x y≤k
  ·simp [h0,h1]
  ·have hc:x.can y=true:=by
    cases h:x.can y
    ·have:=(zob h).2; omega
    ·rfl
   obtain ⟨w1,w2,w3,w4,_,_⟩:=zAY hc (by omega) (show k≤winP x y by omega)
   simp [h0,h1,w1,w2,w3,w4]
theorem zDQ (a b:Int) (ha:a=1∨a=2∨a=4) (hb:b=1∨b=2∨b=4):zbz [.int .i64 a,.int .i64 b]=some (iD (max a b)):=by
 rw [zlc];unfold zfe;obtain ⟨m,hm⟩:=zyf;rcases ha with rfl | rfl | rfl<;>rcases hb with rfl | rfl | rfl<;>simp [zca,hm,fixN,zb5,zah]<;>rfl
theorem zA3 (x y:Geo):zaR [x.D,y.D]=some (iD (zaT x y)):=by
 unfold Geo.D;rw [zl6];unfold zfJ;rw [zzV];show zam (some (D.bool (x.can y))) _=_;cases h:x.can y
 ·simp [zb5,zob h]
 ·rw [zDQ _ _ (zdN.1 (zkd.1 h).1).2.2 (zdN.1 (zkd.1 h).2.1).2.2];simp [zb5,zlS h]
theorem ztQ (x y:Geo):zaz [x.D,y.D]=some (iD (winP x y)):=by
 have hr:=zA3 x y;unfold Geo.D at*;rw [zjB];unfold zep;rw [hr,zzV];show zam (some (D.bool (x.can y))) _=_;cases h:x.can y
 ·simp [zb5,zob h]
 ·obtain ⟨h1,h2⟩:=zlS h;obtain ⟨h3,h4,h5⟩:=zyg h;rw [h3];rcases h2 with e | e | e<;>rw [e]<;>simp [zb5]<;>rfl
theorem zFy (x y:Geo) (k:Int):zbm [x.D,y.D,.int .i64 k]=some (.tup [iD (zbF x y k).1,iD (zbF x y k).2]):=by
 have hr:=zA3 x y;have hw:=ztQ x y;unfold Geo.D at*;rw [zmz];unfold zfQ zbF;rw [hr,hw,zm1]
 by_cases h0:k < 0
 ·simp [h0]
 ·by_cases h1:winP x y≤k
  ·simp [h0,h1]
  ·have hc:x.can y=true:=by
    cases h:x.can y
    ·have:=(zob h).2; omega
    ·rfl
   obtain ⟨w1,w2,w3,w4,_,_⟩:=zAY hc (by omega) (show k≤winP x y by omega)
   simp [h0,h1,w1,w2,w3,w4]
end Wf

namespace Wf
open Go Go.RowKit Go.Proofs
set_option linter.unusedSimpArgs false
set_option linter.unusedVariables false
theorem ztR (a n:Int) (h:1≤n) (h9:n < 1000000000):zad [.int .i64 a,.int .i64 n]=some (.int .i64 (a % n)):=zA2 a n h h9
theorem zyD (t t':Tag) (l m:List Int) (hl:l.length < 1000000000):zaA [.sl t (uL l),.sl t' (uL m)]=some (.bool (decide (l=m))):=by
 rw [zi7,zdr,zdr];unfold zea
 by_cases hlen:l.length=m.length
 ·simp only [zdM,hlen,bne_self_eq_false,zat]
  refine zgd (fun a=>(m.length:Int).toNat - a.1.2.2.1.toNat) (fun _=>some (D.bool (decide (l=m))))
   (fun a=>∃ k:Nat,k≤m.length∧l.take k=m.take k∧a=((uL l,uL m,(k:Int),PUnit.unit),PUnit.unit)) ?_ ⟨0,by omega,by simp,rfl⟩ (by simp; omega)
  rintro again _ ⟨k,hk,he,rfl⟩ hag
  dsimp only;rw [zdM,hlen]
  by_cases hkm:k < m.length
  ·have h1:l[k]? =some l[k]:=List.getElem?_eq_getElem (by omega)
   have h2:m[k]? =some m[k]:=List.getElem?_eq_getElem hkm
   have hd:decide ((k:Int) < (m.length:Int))=true:=by simp; omega
   rw [hd,za0,zab (by omega),zaj (by simpa using zkN h1),zaY,zab (by omega),zaj (by simpa using zkN h2),zaY]
   by_cases hx:l[k]=m[k]
   ·have hb:(l[k] != m[k])=false:=by simp [hx]
    rw [hb,zat,zaH,zah (by omega) (by omega)]
    exact hag _ ⟨k+1,by omega,by rw [List.take_add_one,List.take_add_one,he,h1,h2,hx],rfl⟩ (by simp; omega)
   ·have hb:(l[k] != m[k])=true:=by simp [hx]
    rw [hb,za0];congr 2;symm;simp;intro e;subst e;exact hx rfl
  ·have hd:decide ((k:Int) < (m.length:Int))=false:=by simp; omega
   rw [hd,zat]
   have:l=m:=by
    have e1:l.take k=l:=List.take_of_length_le (by omega)
    have e2:m.take k=m:=List.take_of_length_le (by omega)
    rw [←e1,←e2,he]
   simp [this]
 ·have hb:((l.length:Int) != (m.length:Int))=true:=by simp; omega
  simp only [zdM,hb,za0];congr 2;symm;simp;intro e; subst e; exact hlen rfl
theorem zdh {R:Type} (a:Int) {b:List Int} (h:b.length=32) (f:LfT [.int .i64,.arr 32]→Option R):zaw [.int .i64,.arr 32] (.int .i64 a::uL b) f=f (a,uL b,()):=by
 have e1:(uL b).take 32=uL b:=List.take_of_length_le (by simp [h])
 have e2:(uL b).drop 32=[]:=List.drop_of_length_le (by simp [h])
 simp [zaw,zd3,Lf.get,h,e1,e2]
theorem zqY {R:Type} {b:List Int} (h:b.length=32) (f:LfT [.arr 32]→Option R):zaw [.arr 32] (uL b) f=f (uL b,()):=by
 have e1:(uL b).take 32=uL b:=List.take_of_length_le (by simp [h])
 have e2:(uL b).drop 32=[]:=List.drop_of_length_le (by simp [h])
 simp [zaw,zd3,Lf.get,h,e1,e2]
theorem zI2 {T:Tb} {i:Nat} {s:DS} (h:T[i]? =some s.cells) (hs:s.Ok) (a:Int):za9 [.h kD i 0,.int .i64 a] [T]=some (Ans.mk (.int .i64 (s.may a)) [] []):=by
 rw [zpv];unfold zhY DS.may;rw [zaj h,zaj (zph hs.len),zcn];cases hf:s.failed
 ·by_cases h0:a < 0
  ·simp [zb5,h0]
  ·by_cases h1:52≤a
   ·simp [zb5,h0,h1]
   ·simp [zb5,h0,h1]
 ·simp [zb5]
theorem zFz {T:Tb} {i:Nat} {s:DS} (h:T[i]? =some s.cells) (hs:s.Ok):zbK [.h kD i 0] [T]=some (Ans.mk (.bool s.failed) [] []):=by
 rw [zmg];unfold zfL;rw [zaj h,zaj (zph hs.len),zcn]
theorem ztS {b:List Int} (h:b.length≤4294967296) (tg:Tag):zaq [.sl tg (uL b)]=some (.sl .own (uL b)):=by
 cases b with
 | nil=>exact zhu tg
 | cons n b=>
  show zaq [.sl tg (.int .u8 n::uL b)]=some (.sl .own (.int .u8 n::uL b));rw [zh5,zdr];unfold zdQ
  have h1:(D.lent (.int .u8 n)::uL b)=uL (n::b):=by simp [uL]
  rw [h1];simp only [zdM,zFc,zhR,zab,h];simp [uL]
theorem zGv (w:Int×List Int):(wD w).free=true:=by
 simp only [wD,D.free,D.freeL,zr5,Bool.and_self]
theorem zGw (w:Int×List Int):(wD w).lent=wD w:=by
 simp only [wD,D.lent,D.lentL,zdr]
theorem zDR (p:List (Int×List Int)):D.lentL (p.map wD)=p.map wD:=by
 induction p with
 | nil=>rfl
 | cons w p ih=>simp [ih,zGw]
theorem zHB {p:List (Int×List Int)} (h:∀ w∈p,Sec w.2):zeK 33 (p.map wD)=true:=by
 simp only [zeK,List.all_map,List.all_eq_true];intro w hw;have:=(h w hw).len;simp [wD,D.width,D.isAgg,D.cell,this]
theorem zDS {p:List (Int×List Int)} (hp:∀ w∈p,Sec w.2) (h:p.length≤4294967296) (tg:Tag):zag [.sl tg (p.map wD)]=some (.sl .own (p.map wD)):=by
 cases p with
 | nil=>exact zee tg
 | cons w p=>
  have hok:=zHB hp;rw [List.map_cons] at hok ⊢;rw [zeo,zDR,zGw];unfold zcx
  have hf:(wD w::p.map wD).all D.free=true:=by
   rw [←List.map_cons (f:=wD),List.all_map,List.all_eq_true]; intro w _; exact zGv w
  have hl:(wD w::p.map wD).length≤4294967296:=by simpa using h
  simp only [zab,hl,hok,hf]
theorem zvx {p:List (Int×List Int)} {k:Nat} {w:Int×List Int} (h:p[k]? =some w):(p.map wD)[k]? =some (.agg (.int .i64 w.1::uL w.2)):=by simp [h,wD]
theorem zjU (l:List D):D.width (.agg l)=l.length:=rfl
theorem zI3 {T:Tb} {i:Nat} {s:DS} (h:T[i]? =some s.cells) (hs:s.Ok) (hn:s.pend.length≤1000000) (a:Int):
  zb4 [.h kD i 0,.int .i64 a] [T]=some (Ans.mk (.tup [.sl .own (uL (s.read a).1),.int .i64 (s.read a).2]) [] []):=by
 rw [zot];unfold zgZ DS.read;rw [zI2 h hs a,zac,zbu,zbu,zaY]
 by_cases hm:s.may a=0
 ·rw [hm];have hb:((0:Int) != 0)=false:=rfl
  rw [hb,zat,if_neg (by simp)]
  have ha:0≤a∧a < 52:=by
   unfold DS.may at hm;split at hm
   ·omega
   ·split at hm<;>omega
  have hp:=zka (s:=s) hs.len
  have hbase:=zws (s:=s) hs.len (a:=a.toNat) (by omega)
  have hsec:=zFd hs (a:=a.toNat) (by omega)
  rw [zab ha.1,zab (by omega),zaj h,zab (by rw [zg5 hs.len]; omega),Nat.zero_add,hbase]
  rw [zab (zwr _),zab (by simp [hsec.len]),zab (by simp [hsec.len]),zaj h,zaj hp,zbw,zaj h,zaj hp,zbw,zab (by simp)]
  rw [zqY hsec.len,List.length_map]
  refine zck (R:=Ans) (α:=(Int×(List D×PUnit)×(Nat×Nat×Nat)×Int×Int×PUnit)×List (List D)×PUnit)
   (fun k=>((a,(uL (look (s.pend.take k) a (s.base a.toNat)),PUnit.unit),(i,0,s.pend.length),(s.pend.length:Int),(k:Int),PUnit.unit),T,PUnit.unit)) s.pend.length (by omega) ?_ ?_
  ·intro again k hk;dsimp only;obtain ⟨w,hw⟩:∃ w,s.pend[k]? =some w:=⟨_,List.getElem?_eq_getElem hk⟩;have hws:=hs.ps w (List.mem_of_getElem? hw)
   have hd:decide ((k:Int) < (s.pend.length:Int))=true:=by simp; omega
   have hlk:(look (s.pend.take k) a (s.base a.toNat)).length=32:=zAO (fun w hw=>(hs.ps w (List.mem_of_mem_take hw)).len) hsec.len
   rw [hd,za0,zaj h,zaj hp,zbw,zab (by omega),zab (by simpa using hk),zaj h,zaj hp,zbw,zaj (by simpa using zvx hw),zlL,zdh _ hws.len]
   dsimp only;simp only [List.append_nil,List.cons_append,List.nil_append,zjU,List.length_cons,zdM,hws.len,hlk,zab]
   by_cases hwa:w.1=a
   ·have hb:(w.1 == a)=true:=by simp [hwa]
    rw [hb,za0,List.drop_succ_cons,List.drop_zero]
    have et:(uL w.2).take 32=uL w.2:=List.take_of_length_le (by simp [hws.len])
    rw [et,zab (by omega),zab (by simp [hws.len]),zab (by simp [hws.len]),zab (by omega),zaH,zah (by omega) (by omega),zGf (by simp [hws.len])]
    have e3:(uL (look (s.pend.take k) a (s.base a.toNat))).take 0++uL w.2++(uL (look (s.pend.take k) a (s.base a.toNat))).drop (0+32)=uL w.2:=by
     rw [List.drop_of_length_le (by simp [hlk])]; simp
    rw [e3,zqY hws.len,zyd hw,if_pos hwa];rfl
   ·have hb:(w.1 == a)=false:=by simp [hwa]
    rw [hb,zat,zaH,zah (by omega) (by omega),zqY hlk,zyd hw,if_neg hwa]
    rfl
  ·intro again
   have hlk:=zAO (p:=s.pend) (a:=a) (fun w hw=>(hs.ps w hw).len) hsec.len
   have hd:decide ((s.pend.length:Int) < (s.pend.length:Int))=false:=by simp
   dsimp only;rw [hd,zat,List.take_length];simp only [List.append_nil,zdM,hlk,Nat.le_refl,zab]
   have ec:cut 0 32 (uL (look s.pend a (s.base a.toNat)))=uL (look s.pend a (s.base a.toNat)):=by
    have:=zdL (uL (look s.pend a (s.base a.toNat)));rw [zdM,hlk] at this; exact this
   rw [ec,ztS (by rw [hlk]; omega),zac,zbw]
   simp;rfl
 ·have hb:(s.may a != 0)=true:=by simp [hm]
  rw [hb,za0,if_pos hm];rfl
theorem zHC {T:Tb} {i:Nat} {s:DS} (h:T[i]? =some s.cells) (hs:s.Ok) (a:Int) (tg:Tag) (b:List Int):
  zba [.h kD i 0,.int .i64 a,.sl tg (uL b)] [T]=some (Ans.mk (.tup [wD (putR s a b).1,.int .i64 (putR s a b).2]) [] []):=by
 rw [zpw,zdr];unfold zhZ putR;rw [zI2 h hs a,zac,zbu,zbu,zaY]
 by_cases hm:s.may a=0
 ·rw [hm];have hb:((0:Int) != 0)=false:=rfl
  rw [hb,zat,if_neg (by simp)]
  by_cases hl:b.length=32
  ·have hb2:(((uL b).length:Int) != 32)=false:=by simp [hl]
   rw [hb2,zat,if_neg (by simp [hl]),zab (zAN _),zab (by simp [hl])]
   have et:(D.int .i64 a::uL b).take 33=.int .i64 a::uL b:=List.take_of_length_le (by simp [hl])
   simp only [List.append_nil,List.cons_append,List.nil_append,List.length_cons,zdM,hl,List.drop_zero,et]
   rw [zab (by omega),zdh _ hl]
   dsimp only;simp only [zdM,hl,Nat.le_refl,zab,List.take_of_length_le,et];rw [zdh _ hl];dsimp only
   rw [zab (by simp only [D.free,D.freeL,zr5,Bool.and_self])]
   rfl
  ·have hb2:(((uL b).length:Int) != 32)=true:=by simp; omega
   rw [hb2,za0,if_pos hl];rfl
 ·have hb:(s.may a != 0)=true:=by simp [hm]
  rw [hb,za0,if_pos hm];rfl
theorem zHD (w:Int×List Int) (hw:Sec w.2) (c:Int):zaI [wD w,.at_ (.int .i64 c)]=some (.bool (w.1 == c)):=by
 unfold wD;rw [zkn];unfold zeQ
 rw [show D.lentL (.int .i64 w.1::uL w.2)=.int .i64 w.1::uL w.2 by simp [zdr],zdh _ hw.len]
theorem zzW {p:List (Int×List Int)} (hp:∀ w∈p,Sec w.2) {c:Int} (hc:∀ w∈p,w.1≠c) (hn:p.length≤1000000) (tg:Tag):
  zas [.sl tg (p.map wD),.fn ID.disk_Disk_Damage_1 [] [.at_ (.int .i64 c)]]=some (.int .i64 (-1)):=by
 rw [zdk,zDR];unfold zb0;rw [List.length_map]
 refine zck (R:=D) (α:=(List D×Int×Int×Int×PUnit)×PUnit) (fun k=>((p.map wD,c,(p.length:Int),(k:Int),PUnit.unit),PUnit.unit)) p.length (by omega) ?_ ?_
 ·intro again k hk;dsimp only;obtain ⟨w,hw⟩:∃ w,p[k]? =some w:=⟨_,List.getElem?_eq_getElem hk⟩;have hws:=hp w (List.mem_of_getElem? hw)
  have hd:decide ((k:Int) < (p.length:Int))=true:=by simp; omega
  rw [hd,za0,zab (by omega),zaj (by simpa using zvx hw),zlL,zdh _ hws.len]
  dsimp only;simp only [List.append_nil,List.cons_append,List.nil_append,zjU,List.length_cons,zdM,hws.len,zab];rw [zdh _ hws.len];dsimp only
  rw [zdM,hws.len,zab (by omega)]
  have:=zHD w hws c;unfold wD at this;rw [this,zac,zcn]
  have hb:(w.1 == c)=false:=by simp [hc w (List.mem_of_getElem? hw)]
  rw [hb,zat,zaH,zah (by omega) (by omega)]
  rfl
 ·intro again
  have hd:decide ((p.length:Int) < (p.length:Int))=false:=by simp
  dsimp only;rw [hd,zat]
theorem zyE {p:List (Int×List Int)} (hp:∀ w∈p,Sec w.2) {c:Int} (hc:∀ w∈p,w.1≠c) (hn:p.length≤1000000):
  zap [.sl .own (p.map wD),.fn ID.disk_Disk_Damage_1 [] [.at_ (.int .i64 c)]] []=some (Ans.mk (.sl .own (p.map wD)) [] []):=by
 rw [zdf];unfold zbQ
 rw [zab (by omega),zdL,zzW hp hc hn,zac,zaY]
 have hb:((-1:Int) == -1)=true:=rfl
 have hf:(p.map wD).all D.free=true:=by rw [List.all_map,List.all_eq_true]; intro w _; exact zGv w
 rw [hb,za0,zab (by rfl),zab hf]
theorem zpZ (p:List (Int×List Int)):zdK (p.map wD)=true:=by
 simp only [zdK,List.all_map,List.all_eq_true];intro w _;simp [wD,D.flatEl,D.flat,uL]
theorem zw3 {p:List (Int×List Int)} (h:∀ w∈p,Sec w.2):zgD 33 (p.map wD)=true:=by
 simp only [zgD,List.all_map,List.all_eq_true];intro w hw;have:=(h w hw).len;simp [wD,D.width,this]
theorem zFA {T:Tb} {i:Nat} {s:DS} (h:T[i]? =some s.cells) (hs:s.Ok) (hn:s.pend.length≤1000000) {a:Int} (hc:∀ w∈s.pend,w.1≠a) (tg:Tag) (b:List Int):
  zbJ [.h kD i 0,.int .i64 a,.sl tg (uL b)] [T]=some (Ans.mk (.int .i64 (s.damage a b).1) [] [T.set i (s.damage a b).2.cells]):=by
 rw [zl4,zdr];unfold zfI DS.damage;have hpl:=zAP s a b;rw [zHC h hs,zac,zbu,zbu,zc7,zda,zda,zem];dsimp only;unfold wD;rw [zlL,zdh _ hpl,zaY];dsimp only
 rw [zab (by simp [hpl])]
 by_cases he:(putR s a b).2=0
 ·obtain ⟨h1,h2,h3,h4,h5⟩:=zwt he
  have hb:((putR s a b).2 != 0)=false:=by simp [he]
  rw [hb,zat,if_pos he,h3]
  try rw [he]
  dsimp only
  have et:(uL b).take 32=uL b:=List.take_of_length_le (by simp [h2])
  simp only [List.append_nil,List.cons_append,List.nil_append,List.length_cons,zdM,h2,List.drop_succ_cons,List.drop_zero,et,zwr,Nat.zero_add];have hlen:=hs.len
  have hset:zaU T i (a.toNat*32) (uL b)=T.set i (s.setSec a.toNat b).cells:=by
   rw [zc5 h,zdM,h2,zDx hlen (by omega)]
  have hlen2:=zvj (s:=s) hlen (a:=a.toNat) (by omega) h2
  have hU:=zhq h (s.setSec a.toNat b).cells;have hp:=zka hlen2;have hpe:(s.setSec a.toNat b).pend=s.pend:=rfl
  rw [zab (by first | trivial | omega),zab (by first | trivial | omega),zab h4,zab (by first | trivial | omega),zaj h,zab (by rw [zg5 hlen]; omega),zab (by first | trivial | omega),zab (by first | trivial | rfl)]
  rw [zws hlen (by first | trivial | omega),zab (zwr _),zs5,hset,zaj hU,zaj hp,zbw,zaj hU,zaj hp,zbw,zab (by first | trivial | omega),zdL,hpe]
  rw [zDS hs.ps (by first | trivial | omega),zac,zbw,zab (by first | trivial | rfl),zab (zpZ _),zyE hs.ps hc hn,zac,zbu,zbu,zbw,zab (by first | trivial | omega),zaj hU,zab (by rw [zg5 hlen2]; omega),
   zab (by first | trivial | rfl),zab (zpZ _),zab (zw3 hs.ps),zs5]
  have h6:zaU (T.set i (s.setSec a.toNat b).cells) i 1664 [.sl .own (s.pend.map wD)]=T.set i (s.setSec a.toNat b).cells:=by
   rw [zc5 hU];have:=zqk (s:=s.setSec a.toNat b) hlen2 s.pend
   rw [show (1664:Nat)+[D.sl .own (s.pend.map wD)].length=1665 from rfl,this,List.set_set]
   rfl
  rw [h6,show s.mayW a b=0 from he]
 ·have hb:((putR s a b).2 != 0)=true:=by simp [he]
  rw [hb,za0,if_neg he]
  have:T.set i s.cells=T:=by
   apply List.ext_getElem?;intro j;rw [List.getElem?_set];split
   ·rename_i e; subst e; rw [h]; simp [za8 h]
   ·rfl
  rw [this]
theorem zFB (T:Tb):zqq T=some (Ans.mk (.h kD T.length 0) [] [T++[List.replicate 1664 (D.int .u8 0)++[.sl .own [],.bool false]]]):=by kernel_rfl
theorem zJW (T:Tb):zdu [] [T]=some (Ans.mk (.h kD T.length 0) [] [T++[DS.new.cells]]):=by
 rw [zwC]
 have e:DS.new.cells=List.replicate 1664 (D.int .u8 0)++[.sl .own [],.bool false]:=by
  show uL (List.replicate 1664 0)++[.sl .own [],.bool false]=_;rw [←ztb]
 rw [e];exact zFB T
theorem zzX {R:Type} {n:Nat} {b:List Int} (h:b.length=n) (f:LfT [.arr n]→Option R):zaw [.arr n] (uL b) f=f (uL b,()):=by
 subst h
 have e1:(uL b).take b.length=uL b:=List.take_of_length_le (by simp)
 have e2:(uL b).drop b.length=[]:=List.drop_of_length_le (by simp)
 simp [zaw,zd3,Lf.get,e1,e2]
theorem zjV {n:Nat} {b:List Int} (h:b.length=n):(uL b).take n=uL b:=List.take_of_length_le (by simp [h])
theorem zFC {a:Int} {b:List Int} (h:b.length=32):zeK 33 [D.agg (D.int .i64 a::uL b)]=true:=by simp [zeK,D.width,D.isAgg,D.cell,h]
theorem zDT {a:Int} {b:List Int} (h:b.length=32):zgD 33 [D.agg (D.int .i64 a::uL b)]=true:=by simp [zgD,D.width,h]
theorem zBZ (a:Int) (b:List Int):zdK [D.agg (D.int .i64 a::uL b)]=true:=by
 have h:(uL b).all D.flat=true:=zHt b;show ((D.agg (D.int .i64 a::uL b)).flatEl && true)=true;show ((true && (uL b).all D.flat) && true)=true;rw [h]; rfl
section
variable {T:Tb} {i:Nat} {s:DS}
theorem zFD (h:T[i]? =some s.cells) (hl:s.l.length=1664) (p:List (Int×List Int)) (l:List D) (e:l=p.map wD):zaU (setT T i 1664 .undef) i 1664 [.sl .own l]=T.set i ({ s with pend:=p }:DS).cells:=by
 subst e
 rw [zwk h (by rw [zg5 hl]; omega),zqk hl]
theorem ztT (h:T[i]? =some s.cells) (hl:s.l.length=1664) (p:List (Int×List Int)):zaU T i 1664 [.sl .own (p.map wD)]=T.set i ({ s with pend:=p }:DS).cells:=by
 rw [zc5 h];exact congrArg _ (zqk hl p)
theorem zw4 (h:T[i]? =some s.cells) (hs:s.Ok) (hn:s.pend.length≤1000000) (a:Int) (tg:Tag) (b:List Int):
  zbG [.h kD i 0,.int .i64 a,.sl tg (uL b)] [T]=some (Ans.mk (.int .i64 (s.write a b).1) [] [T.set i (s.write a b).2.cells]):=by
 rw [znu,zdr];unfold zgq DS.write;have hpl:=zAP s a b
 by_cases he:(putR s a b).2=0
 ·obtain ⟨h1,h2,h3,h4,h5⟩:=zwt he
  simp (disch:=first | omega | assumption | (simp; done) | fail) [zHC h hs,wD,zdh _ hpl,he,h3,zaj h,zaj (zka hs.len),hpl,h2,zzX h2,zjV h2,zFC h2,zDT h2,zDj h,zg5 hs.len,zpZ,zBZ,zw3 hs.ps]
  exact zFD h hs.len (s.pend++[(a,b)]) _ (by simp [wD])
 ·simp (disch:=first | omega | assumption | (simp; done) | fail) [zHC h hs,wD,zdh _ hpl,he,hpl,set_same h]
theorem zqZ {β:Type} {l:List β} {n:Nat} (h:l.length=n):cut 0 n l=l:=by subst h; exact zdL l
theorem zI4 (l:List Int):(uL l).map D.hide=uL l:=by
 unfold uL; rw [List.map_map]; apply List.map_congr_left; intro n _; rfl
theorem zGx (l:List Int):(uL l).map D.own0=uL l:=by
 unfold uL; rw [List.map_map]; apply List.map_congr_left; intro n _; rfl
theorem zzY (h:T[i]? =some s.cells) (hs:s.Ok) (hn:s.pend.length≤1000000):zbV [.h kD i 0] [T]=some (Ans.mk (.h kD T.length 0) [] [T++[s.cells]]):=by
 rw [zns];unfold zgp
 have e1:List.map D.hide (List.take 1666 (List.drop 0 s.cells))=uL s.l++[D.undef,D.bool s.failed]:=by
  rw [List.drop_zero,List.take_of_length_le (by rw [zg5 hs.len]; omega)]
  unfold DS.cells;rw [List.map_append,zI4]; rfl
 have e2:∀ (x:List D),x.length=1666→spl 0 1666 x (uL s.l++[D.undef,D.bool s.failed])=uL s.l++[D.undef,D.bool s.failed]:=by
  intro x hx; unfold spl; rw [if_pos ⟨rfl,hx.symm⟩]
 have e3:((uL s.l++[D.undef,D.bool s.failed]).set 1664 .nilp).all D.own0ok=true:=by
  rw [List.set_append_right _ _ (by simp [hs.len]),List.all_append,zrk (fun _=>rfl)]
  simp [hs.len,D.own0ok,D.flat]
 have e4:((uL s.l++[D.undef,D.bool s.failed]).map D.own0).set 1664 (.sl .own (s.pend.map wD))=s.cells:=by
  rw [List.map_append,zGx,List.set_append_right _ _ (by simp [hs.len])]
  simp [hs.len,DS.cells,D.own0]
 have e5:(uL s.l++[D.undef,D.bool s.failed]).length=1666:=by simp [hs.len]
 have e6:(List.reverse ([D.bool false,D.sl Tag.nil []]++List.replicate 1664 (D.int IntKind.u8 (0:Int)))).length=1666:=by rw [List.length_reverse,List.length_append,List.length_replicate]; rfl
 have e7:((true && decide ((1:Nat)=(1:Nat)) && List.all [(1664:Nat)] fun k=>decide (k < 1666))=true):=by decide
 rw [zaj h,e1,e2 _ e6];generalize (uL s.l++[D.undef,D.bool s.failed])=X at*
 simp (disch:=first | omega | assumption | (simp; done) | fail) [e3,e4,e5,e7,zqZ,zaj h,zaj (zka hs.len),zg5 hs.len,zDS hs.ps,zpZ,zw3 hs.ps]
theorem zHE (h:T[i]? =some s.cells) (hs:s.Ok) (hn:s.pend.length≤1000000):zbW [.h kD i 0] [T]=some (Ans.mk (.int .i64 s.flush.1) [] [T.set i s.flush.2.cells]):=by
 rw [znw];unfold zgr DS.flush;cases hf:s.failed
 ·have hlp:(s.pend.map wD).length=s.pend.length:=by simp
  simp (disch:=first | omega | assumption | (simp; done) | fail) only [zaj h,zaj (zph hs.len),zaj (zka hs.len),hf,zcn,zat,zbw,zab,Nat.zero_add,Nat.le_refl,hlp]
  let st:Nat→(Nat×(Nat×Nat×Nat)×Int×Int×PUnit)×List (List D)×PUnit:=fun k=>((i,(i,0,s.pend.length),(s.pend.length:Int),(k:Int),PUnit.unit),T.set i (s.puts (s.pend.take k)).cells,PUnit.unit)
  have hst:st 0=((i,(i,0,s.pend.length),(s.pend.length:Int),0,PUnit.unit),T,PUnit.unit):=by
   show ((i,(i,0,s.pend.length),(s.pend.length:Int),0,PUnit.unit),T.set i (s.puts []).cells,PUnit.unit)=_
   rw [show s.puts []=s from rfl,set_same h]
  rw [←hst]
  refine zck st s.pend.length (by omega) ?_ ?_
  ·intro again k hk;dsimp only [st];obtain ⟨w,hw⟩:∃ w,s.pend[k]? =some w:=⟨_,List.getElem?_eq_getElem hk⟩;obtain ⟨hws,hw0,hw1⟩:=hs.pend w (List.mem_of_getElem? hw)
   obtain ⟨pk,pf,pp⟩:=zkb hs (s.pend.take k) fun w hw=>hs.pend w (List.mem_of_mem_take hw)
   have hU:=zhq h (s.puts (s.pend.take k)).cells;have hpd:=zka (s:=s.puts (s.pend.take k)) pk.len;rw [pp] at hpd
   have hnx:zaU (T.set i (s.puts (s.pend.take k)).cells) i (w.1.toNat*32) (uL w.2)=T.set i (s.puts (s.pend.take (k+1))).cells:=by
    rw [zc5 hU,zdM,hws.len,zDx pk.len (by omega),List.set_set,List.take_add_one,hw]
    show _=T.set i (s.puts (s.pend.take k++[w])).cells;unfold DS.puts;rw [List.foldl_append]; rfl
   simp (disch:=first | omega | assumption | (simp; done) | fail) [zaj hU,zaj hpd,zaj (zvx hw),zdh _ hws.len,hws.len,zjV hws.len,zg5 pk.len,hk,zjU,zws pk.len,hw0,hw1,zah,hnx]
  ·intro again;dsimp only [st];rw [List.take_length];obtain ⟨pk,pf,pp⟩:=zkb hs s.pend hs.pend;have hU:=zhq h (s.puts s.pend).cells;have hz:=ztT hU pk.len []
   have hz':zaU (T.set i (s.puts s.pend).cells) i 1664 [D.sl Tag.own []]=T.set i s.flushed.cells:=by
    have:=ztT hU pk.len [];rw [List.set_set] at this; exact this
   simp (disch:=first | omega | assumption | (simp; done) | fail) [zaj hU,zg5 pk.len,hz']
 ·simp (disch:=first | omega | assumption | (simp; done) | fail) [zaj h,zaj (zph hs.len),hf,set_same h]
theorem zyF (h:T[i]? =some s.cells) (hs:s.Ok):zaK [.h kD i 0] [T]=some (Ans.mk (.int .i64 s.pend.length) [] []):=by
 rw [zlm];unfold zfi;simp [zaj h,zaj (zka hs.len)]
theorem zI5 (h:T[i]? =some s.cells) (hs:s.Ok):zcm [.h kD i 0] [T]=some (Ans.mk (.tup []) [] [T.set i DS.dead.cells]):=by
 rw [zoK];unfold zg1
 have e:List.map D.own0 (List.set (List.reverse ([D.bool false,D.sl Tag.nil []]++List.replicate 1664 (D.int IntKind.u8 (0:Int)))) 1665 (D.bool true))=DS.dead.cells:=by
  rw [List.reverse_append,List.reverse_replicate];show List.map D.own0 (List.set (List.replicate 1664 (D.int IntKind.u8 (0:Int))++[D.sl Tag.nil [],D.bool false]) 1665 (D.bool true))=uL (List.replicate 1664 0)++[.sl .own [],.bool true]
  rw [List.set_append_right _ _ (by rw [List.length_replicate]; omega),List.length_replicate,List.map_append,ztb,zGx]
  rfl
 have hl:DS.dead.cells.length=1666:=zg5 (s:=DS.dead) (List.length_replicate ..)
 have hset:zaU T i 0 DS.dead.cells=T.set i DS.dead.cells:=by
  rw [zc5 h,hl]
  rw [List.take_zero,List.nil_append,List.drop_of_length_le (by rw [zg5 hs.len]; omega),List.append_nil]
 rw [e,hset,zaj h,zg5 hs.len];simp
end
end Wf

namespace Wf
open Go Go.RowKit Go.Proofs
set_option linter.unusedSimpArgs false
set_option linter.unusedVariables false
section
variable {T0 T1:Tb} {b:Nat} {idx:List Nat} {B:Ben}
theorem At.ds (h:At T0 T1 b idx B) (hw:B.w≤1000000) (d:Int):(B.dk d).Ok∧(B.dk d).pend.length≤1000000:=by
 have:=zkc h.ok d
 exact ⟨this.1,by have:=this.2; omega⟩
theorem zDU (h:At T0 T1 b idx B):zaW [.h kB b 0] [P0 T0 b idx B]=some (Ans.mk (.int .i64 B.n) [] []):=by
 rw [znn];unfold zgm;simp [zaj h.get0,bRow,h.len,Ben.n]
theorem b_is (h:At T0 T1 b idx B) (d:Int):zar [.h kB b 0,.int .i64 d] [P0 T0 b idx B]=some (Ans.mk (.bool (B.is d)) [] []):=by
 rw [zok];unfold zgX Ben.is Ben.n
 by_cases h0:0≤d
 ·simp [zaj h.get0,bRow,h0,h.len]
 ·simp [h0]
theorem zFE (h:At T0 T1 b idx B) (d:Int):zbr [.h kB b 0,.int .i64 d] [P0 T0 b idx B,P1 T1 idx B]=some (Ans.mk (.bool (B.failed d)) [] []):=by
 rw [zkw];unfold zeT Ben.failed;cases hd:B.is d
 ·simp [b_is h d,hd]
 ·obtain ⟨h0,h1⟩:=zeI.1 hd
  have h1':d.toNat < idx.length:=by have:=h.len; unfold Ben.n at h1; omega
  simp (disch:=first | omega | assumption | (simp; done) | fail) [b_is h d,hd,zaj h.get0,bRow,h0,h1',zaj (h.hd hd),D.isAgg,D.width,D.cell,zFz (h.get1 hd) (zkc h.ok d).1]
theorem zyG (h:At T0 T1 b idx B) (d:Int):zaB [.h kB b 0,.int .i64 d] [P0 T0 b idx B]=some (Ans.mk (.int .i64 (B.may d)) [] []):=by
 rw [znp];unfold zgn Ben.may;cases hd:B.is d
 ·simp [b_is h d,hd]
 ·cases hw:B.down<;>simp [b_is h d,hd,zaj h.get0,bRow,hw]
theorem zA4 (h:At T0 T1 b idx B) (hw:B.w≤1000000) (d a:Int):zaO [.h kB b 0,.int .i64 d,.int .i64 a] [P0 T0 b idx B,P1 T1 idx B]=some (Ans.mk (.tup [.sl .own (uL (B.read d a).1),.int .i64 (B.read d a).2]) [] []):=by
 rw [zmi];unfold zfM Ben.read
 by_cases hm:B.may d=0
 ·obtain ⟨hd,hdn⟩:=may0.1 hm;obtain ⟨h0,h1⟩:=zeI.1 hd
  have h1':d.toNat < idx.length:=by have:=h.len; unfold Ben.n at h1; omega
  have hu:=zhR ((B.dk d).read a).1;simp only [List.all_eq_true] at hu
  simp (disch:=first | omega | assumption | (simp; done) | fail) [zyG h d,hm,zaj h.get0,bRow,h0,h1',zaj (h.hd hd),D.isAgg,D.width,D.cell,zI3 (h.get1 hd) (h.ds hw d).1 (h.ds hw d).2]
 ·simp [zyG h d,hm]; rfl
theorem zFF (h:At T0 T1 b idx B) (tg:Tag) (live:List Bool) {d:Int} (h0:0≤d):zaV [.h kB b 0,.sl tg (live.map D.bool),.int .i64 d] [P0 T0 b idx B,P1 T1 idx B]=some (Ans.mk (.bool (B.up live d)) [] []):=by
 have hl:D.lentL (live.map D.bool)=live.map D.bool:=by
  induction live with
  | nil=>rfl
  | cons x l ih=>simp [ih]
 rw [zun,hl];unfold zor Ben.up
 by_cases h1:d < B.n
 ·by_cases h2:d < live.length
  ·have e:live[d.toNat]? =some (live[d.toNat]'(by omega)):=List.getElem?_eq_getElem (by omega)
   have e':(live.map D.bool)[d.toNat]? =some (.bool (live[d.toNat]'(by omega))):=by simp [e]
   cases hv:live[d.toNat]'(by omega)
   ·rw [hv] at e e';simp [zDU h,h1,h2,h0,zaj e',e,hv]
   ·rw [hv] at e e';simp [zDU h,h1,h2,h0,zaj e',e,zFE h d,hv]
  ·have e:live[d.toNat]? =none:=List.getElem?_eq_none (by omega)
   simp [zDU h,h1,h2,e]
 ·simp [zDU h,h1]
theorem zDV (h:At T0 T1 b idx B) (hw:B.w≤1000000):zbj [.h kB b 0] [P0 T0 b idx B]=some (Ans.mk (.bool (decide (B.left≠0))) [] [P0 T0 b idx (if B.left=0 then B.off else B.less)]):=by
 rw [zjL];unfold zes;have hw0:=h.ok.w0;have hlf:=h.ok.lf;have hg:=h.get0
 have hset:∀ (B':Ben) (T:Tb) (cs:List D) (o:Nat) (x:D),T=P0 T0 b idx B'→cs=bRow B' idx→∀ B'':Ben,cs.take o++[x]++cs.drop (o+1)=bRow B'' idx→zaU T b o [x]=P0 T0 b idx B'':=by
  rintro B' _ _ o x rfl rfl B'' e
  have hg':(P0 T0 b idx B')[b]? =some (bRow B' idx):=by unfold P0; rw [List.getElem?_set,if_pos rfl,if_pos h.b]
  rw [zc5 hg'];show (P0 T0 b idx B').set b ((bRow B' idx).take o++[x]++(bRow B' idx).drop (o+1))=_;rw [e,zGs]
 by_cases hl:B.left=0
 ·have e1:=hset B _ _ 2 (.bool true) rfl rfl B.off rfl
  simp (disch:=first | omega | assumption | (simp; done) | fail) [zaj hg,bRow,hl,e1,zfZ,D.flat]
 ·by_cases hp:0 < B.left
  ·let B1:Ben:={ B with left:=B.left - 1 };have e1:=hset B _ _ 1 (.int .i64 (B.left - 1)) rfl rfl B1 rfl
   have hg1:(P0 T0 b idx B1)[b]? =some (bRow B1 idx):=by unfold P0; rw [List.getElem?_set,if_pos rfl,if_pos h.b]
   have e2:=hset B1 _ _ 0 (.int .i64 (B.w+1)) rfl rfl B.less (by unfold Ben.less; rw [if_pos hp]; rfl)
   have e3:bRow B1 idx=[.int .i64 B.w,.int .i64 (B.left - 1),.bool B.down,.sl .own (idx.map hD)]:=rfl;rw [e3] at hg1
   simp (disch:=first | omega | assumption | (simp; done) | fail) [zaj hg,zaj hg1,bRow,hl,hp,e1,e2,zfZ,D.flat,zah]
  ·have e1:=hset B _ _ 0 (.int .i64 (B.w+1)) rfl rfl B.less (by unfold Ben.less; rw [if_neg hp]; rfl)
   simp (disch:=first | omega | assumption | (simp; done) | fail) [zaj hg,bRow,hl,hp,e1,zfZ,D.flat,zah]
theorem zHF (h:At T0 T1 b idx B) (hw:B.w≤1000000) (d a:Int) (tg:Tag) (x:List Int):
  zbA [.h kB b 0,.int .i64 d,.int .i64 a,.sl tg (uL x)] [P0 T0 b idx B,P1 T1 idx B]=some (Ans.mk (.int .i64 (B.write d a x).1) [] [P0 T0 b idx (B.write d a x).2,P1 T1 idx (B.write d a x).2]):=by
 rw [zli,zdr];unfold zfg Ben.write
 by_cases hm:B.may d=0
 ·obtain ⟨hd,hdn⟩:=may0.1 hm;obtain ⟨h0,h1⟩:=zeI.1 hd;obtain ⟨ho,hp⟩:=h.ds hw d
  have h1':d.toNat < idx.length:=by have:=h.len; unfold Ben.n at h1; omega
  have hT:(P1 T1 idx B++[(B.dk d).cells])[(P1 T1 idx B).length]? =some (B.dk d).cells:=by simp
  have hj:(P1 T1 idx B++[(B.dk d).cells]).set (P1 T1 idx B).length ((B.dk d).write a x).2.cells=P1 T1 idx (B.junk ((B.dk d).write a x).2):=by
   rw [List.set_append_right _ _ (Nat.le_refl _),Nat.sub_self,←zHw]; rfl
  have hJ:At T0 T1 b idx (B.junk ((B.dk d).write a x).2):=h.nx (K:=0) ⟨ztf h.ok _,rfl,by simp,by simp⟩
  have hd':(B.junk ((B.dk d).write a x).2).is d=true:=hd;have hg1:=hJ.get1 hd';have hset:=hJ.set1 hd' ((B.dk d).write a x).2;have hw1:=zw4 (T:=P1 T1 idx (B.junk ((B.dk d).write a x).2)) (i:=ix idx d) (s:=B.dk d) hg1 ho hp a .lent x
  have hgr:∀ B':Ben,(P0 T0 b idx B')[b]? =some [.int .i64 B'.w,.int .i64 B'.left,.bool B'.down,.sl .own (idx.map hD)]:=by
   intro B'; unfold P0; rw [List.getElem?_set,if_pos rfl,if_pos h.b]; rfl
  by_cases he:(B.dk d).mayW a x=0
  ·have e1:((B.dk d).write a x).1=0:=he
   have e2:((B.dk d).write a x).2=(B.dk d).add a x:=by unfold DS.write; rw [if_pos he]
   by_cases hl:B.left=0
   ·simp (disch:=first | omega | assumption | (simp; done) | fail) [zyG h d,hm,zaj (hgr _),h0,h1',zaj (h.hd hd),D.isAgg,D.width,D.cell,zzY (h.get1 hd) ho hp,zhO,zw4 hT ho hp,hj,he,e1,zDV h hw,hl]
    exact ⟨rfl,rfl⟩
   ·simp (disch:=first | omega | assumption | (simp; done) | fail) [zyG h d,hm,zaj (hgr _),h0,h1',zaj (h.hd hd),D.isAgg,D.width,D.cell,zzY (h.get1 hd) ho hp,zhO,zw4 hT ho hp,hj,he,e1,zDV h hw,hl,hw1,hset]
    rw [e2]; exact ⟨rfl,rfl⟩
  ·have e1:¬ ((B.dk d).write a x).1=0:=he
   simp (disch:=first | omega | assumption | (simp; done) | fail) [zyG h d,hm,zaj (hgr _),h0,h1',zaj (h.hd hd),D.isAgg,D.width,D.cell,zzY (h.get1 hd) ho hp,zhO,zw4 hT ho hp,hj,he,e1]
   exact ⟨rfl,rfl⟩
 ·simp [zyG h d,hm]
theorem zHG (h:At T0 T1 b idx B) (hw:B.w≤1000000) (d:Int):
  zbB [.h kB b 0,.int .i64 d] [P0 T0 b idx B,P1 T1 idx B]=some (Ans.mk (.int .i64 (B.flush d).1) [] [P1 T1 idx (B.flush d).2]):=by
 rw [zlk];unfold zfh Ben.flush
 by_cases hm:B.may d=0
 ·obtain ⟨hd,hdn⟩:=may0.1 hm;obtain ⟨h0,h1⟩:=zeI.1 hd;obtain ⟨ho,hp⟩:=h.ds hw d
  have h1':d.toNat < idx.length:=by have:=h.len; unfold Ben.n at h1; omega
  simp (disch:=first | omega | assumption | (simp; done) | fail) [zyG h d,hm,zaj h.get0,bRow,h0,h1',zaj (h.hd hd),D.isAgg,D.width,D.cell,zHE (h.get1 hd) ho hp,h.set1 hd]
 ·simp [zyG h d,hm]
theorem zI6 (h:At T0 T1 b idx B) (d:Int):
  zfT [.h kB b 0,.int .i64 d] [P0 T0 b idx B,P1 T1 idx B]=some (Ans.mk (.int .i64 (B.fail d).1) [] [P1 T1 idx (B.fail d).2]):=by
 rw [zmD];unfold zfU Ben.fail;cases hd:B.is d
 ·simp [b_is h d,hd]
 ·obtain ⟨h0,h1⟩:=zeI.1 hd
  have h1':d.toNat < idx.length:=by have:=h.len; unfold Ben.n at h1; omega
  simp (disch:=first | omega | assumption | (simp; done) | fail) [b_is h d,hd,zaj h.get0,bRow,h0,h1',zaj (h.hd hd),D.isAgg,D.width,D.cell,zI5 (h.get1 hd) (zkc h.ok d).1,h.set1 hd]
theorem zFG (h:At T0 T1 b idx B) (hw:B.w≤1000000) (d:Int) {a:Int} (hc:∀ w∈(B.dk d).pend,w.1≠a) (tg:Tag) (x:List Int):
  zbq [.h kB b 0,.int .i64 d,.int .i64 a,.sl tg (uL x)] [P0 T0 b idx B,P1 T1 idx B]=some (Ans.mk (.int .i64 (B.damage d a x).1) [] [P1 T1 idx (B.damage d a x).2]):=by
 rw [zkp,zdr];unfold zeR Ben.damage;cases hd:B.is d
 ·simp [b_is h d,hd]
 ·obtain ⟨h0,h1⟩:=zeI.1 hd;obtain ⟨ho,hp⟩:=h.ds hw d
  have h1':d.toNat < idx.length:=by have:=h.len; unfold Ben.n at h1; omega
  simp (disch:=first | omega | assumption | (simp; done) | fail) [b_is h d,hd,zaj h.get0,bRow,h0,h1',zaj (h.hd hd),D.isAgg,D.width,D.cell,zFA (h.get1 hd) ho hp hc,h.set1 hd]
def zw5 (B:Ben):Nat→Int
 | 0=>0
 | k+1=>zw5 B k+(B.dk k).pend.length
theorem zA5 (hB:B.Ok):∀ k,0≤zw5 B k∧zw5 B k≤k*B.w
 | 0=>⟨Int.le_refl _,by simp [zw5]⟩
 | k+1=>by
  have:=zA5 hB k;have h2:=(zkc hB k).2
  have e:((k+1:Nat):Int)*B.w=k*B.w+B.w:=by rw [Int.natCast_add,Int.add_mul]; simp
  unfold zw5; rw [e]; omega
def Ben.pending (B:Ben):Int:=zw5 B B.ds.length
theorem zDW (h:At T0 T1 b idx B) (hw:B.w≤1000000):zev [.h kB b 0] [P0 T0 b idx B,P1 T1 idx B]=some (Ans.mk (.int .i64 B.pending) [] []):=by
 rw [zjR];unfold zew Ben.pending;have hrow:(P0 T0 b idx B)[b]? =some [.int .i64 B.w,.int .i64 B.left,.bool B.down,.sl .own (idx.map hD)]:=h.get0;have hsm:=h.ok.small
 simp (disch:=first | omega | assumption | (simp; done) | fail) only [zaj hrow,zfz,zlM,zbw,zab,Nat.zero_add,Nat.le_refl,List.length_map,h.len]
 let st:Nat→(Int×(Nat×Nat×Nat)×Int×Int×PUnit)×List (List D)×List (List D)×PUnit:=fun k=>((zw5 B k,(b,0,B.ds.length),(B.ds.length:Int),(k:Int),PUnit.unit),P0 T0 b idx B,P1 T1 idx B,PUnit.unit)
 show zca _ (st 0)=_
 refine zck st B.ds.length (by omega) ?_ ?_
 ·intro again k hk;dsimp only [st]
  have hd:B.is k=true:=zeI.2 ⟨by omega,by unfold Ben.n; omega⟩
  have hp:=zA5 h.ok k;have h2:=(zkc h.ok k).2
  have hkw:(k:Int)*B.w≤8*1000000:=Int.mul_le_mul (by omega) hw h.ok.w0 (by omega)
  have hhd:(idx.map hD)[k]? =some (.h kD (ix idx k) 0):=by have:=h.hd hd; simpa using this
  have hw0:=h.ok.w0
  simp (disch:=first | omega | assumption | (simp; done) | fail) [zaj hrow,hk,zaj hhd,D.isAgg,D.width,D.cell,zyF (h.get1 hd) (zkc h.ok _).1,zah]
  rfl
 ·intro again;dsimp only [st];simp
def Ben.limit (B:Ben) (n:Int):Ben:={ B with left:=max (-1) n }
theorem zHH (h:At T0 T1 b idx B) (n:Int):zbk [.h kB b 0,.int .i64 n] [P0 T0 b idx B]=some (Ans.mk (.tup []) [] [P0 T0 b idx (B.limit n)]):=by
 rw [zjN];unfold zet
 have hset:zaU (P0 T0 b idx B) b 1 [.int .i64 (max (-1) n)]=P0 T0 b idx (B.limit n):=by
  rw [zc5 h.get0];show (P0 T0 b idx B).set b (bRow (B.limit n) idx)=_;rw [zGs]
 simp (disch:=first | omega | assumption | (simp; done) | fail) [zaj h.get0,bRow,hset,zfZ,D.flat]
end
end Wf

