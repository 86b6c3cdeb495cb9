/- The reference's texts: reading a number. Printed by gen_ro.py. -/
import Derived.Test.YtkoaakefgacokaaGreatDoorGYh
import Derived.Test.YtkoaakefgacokaaGreatDoorGRat
set_option linter.unusedVariables false
set_option maxRecDepth 100000
set_option maxHeartbeats 64000000
namespace Go.Proofs.YtkoaakefgacokaaGreatDoor
open Go.RowKit
theorem dig_first {l:List UInt8} (h:0<l.length) (hs:0<(⟨l.toArray⟩:ByteArray).size):(⟨l.toArray⟩:ByteArray)[0]'hs=l[0]'h:=rfl
theorem head_first {l:List UInt8} (h:0<l.length):l.head?=some (l[0]'h):=by
 cases l with
 | nil=>simp at h
 | cons a l=>rfl
theorem first_48 {l:List UInt8} (hs:0<(⟨l.toArray⟩:ByteArray).size) (b:Bool) (hb:(l.head? == some 48)=b):((((⟨l.toArray⟩:ByteArray)[0]'hs).toNat:Int) == 48)=b:=by
 have h:0<l.length:=hs;rw [dig_first h hs,←hb,head_first h];rw [Bool.eq_iff_iff,beq_iff_eq,beq_iff_eq,Option.some.injEq]
 constructor
 ·intro e;apply UInt8.toNat_inj.1;have e48:(48:UInt8).toNat=48:=rfl;omega
 ·intro e;rw [e];rfl
theorem bz (l:List UInt8):(⟨l.toArray⟩:ByteArray).size=l.length:=by simp [ByteArray.size]
def PC (l body:List UInt8) (sg:Int):Prop:=∀W,Calls Tryz.prog 54 #[.string ⟨l.toArray⟩] W fun e w'=>e=.returned (.tuple #[.string ⟨body.toArray⟩,.int .i64 sg])∧w'=W
def PT (body top bot:List UInt8) (t:Bool):Prop:=∀W,Calls Tryz.prog 55 #[.string ⟨body.toArray⟩,.int .u8 47] W fun e w'=>e=.returned (.tuple #[.string ⟨top.toArray⟩,.string ⟨bot.toArray⟩,.bool t])∧∃q,w'=W.drewN q
def PD (x:List UInt8) (t:Bool):Prop:=∀W,Calls Tryz.prog 56 #[.string ⟨x.toArray⟩] W fun e w'=>e=.returned (.bool t)∧w'=W
def PR (l:List UInt8) (w:World) (q:Rat) (c:Int):Prop:=Calls Tryz.prog 19 #[.string ⟨l.toArray⟩] w fun e w'=>∃v,e=.returned (.tuple #[v,.int .i64 c])∧Nr w' v q∧Ext w w'∧BlN (w.heap.size≤·) v
def TS (top:List UInt8):Prop:=top.length=1∨1<top.length∧(top.head? == some 48)=false
theorem ts_b {top:List UInt8} (h:TS top):∃b,decide ((1:Int)<(top.length:Int))=b∧decide (1<top.length)=b∧(b=true→∃z:0<(⟨top.toArray⟩:ByteArray).size,((((⟨top.toArray⟩:ByteArray)[0]'z).toNat:Int) == 48)=false):=by
 rcases h with h|⟨h,k⟩
 ·exact⟨false,by simp;omega,by simp;omega,fun e=>by cases e⟩
 ·have z:0<(⟨top.toArray⟩:ByteArray).size:=by rw [bz];omega
  exact⟨true,by simp;omega,by simp;omega,fun _=>⟨z,first_48 z false k⟩⟩
theorem rparse_A (l body top bot:List UInt8) (sg:Int) (two:Bool) (w:World) (hcp:PC l body sg) (hct:PT body top bot two) (hdt:PD top false):PR l w 0 6:=by
 have HCP:=ZZ hcp;have HCT:=ZZ hct;have HDT:=ZZ hdt;have hsz:=bz top;have hsz2:=bz bot;have K0:=ZZ (ab w (.cells #[.int .i64 0,.slice none 0 0,.slice none 0 0] 59));clear hcp hct hdt;unfold PR
 go_enter Tryz.func19,Tryz.ntmps19
 go_wp2_with fail;refine(HCP.out _).mono ?_
 rintro e w1 ⟨rfl,rfl⟩;go_wp2_with fail;refine(HCT.out _).mono ?_;rintro e w2 ⟨rfl,q,rfl⟩;have K1:=ZZ (av (w.alloc (.cells #[.int .i64 0,.slice none 0 0,.slice none 0 0] 59)) q);go_wp2_with fail;refine(HDT.out _).mono ?_;rintro e w3 ⟨rfl,rfl⟩;obtain⟨z0,z1_,z2_,f0,f1,f2⟩:=ak (rowR K1.out);go_wp2_with fail;refine bodyPost_ret (v:=.tuple #[.agg #[.int .i64 0,.slice none 0 0,.slice none 0 0],.int .i64 6]) (by simp [results,Tryz.f19];go_simp) rfl ?_;exact⟨_,rfl,Nr.zero _,ap (al K0.out K1.out) (Nat.le_refl _) _ _ _,bln_mk blc_none blc_none⟩
theorem rparse_Bd (l body top bot:List UInt8) (sg:Int) (w:World) (hcp:PC l body sg) (hct:PT body top bot true) (hdt:PD top true) (hdb:PD bot false):PR l w 0 6:=by
 have HCP:=ZZ hcp;have HCT:=ZZ hct;have HDT:=ZZ hdt;have hsz:=bz top;have hsz2:=bz bot;have K0:=ZZ (ab w (.cells #[.int .i64 0,.slice none 0 0,.slice none 0 0] 59));have HDB:=ZZ hdb;clear hdb;clear hcp hct hdt;unfold PR
 go_enter Tryz.func19,Tryz.ntmps19
 go_wp2_with fail;refine(HCP.out _).mono ?_
 rintro e w1 ⟨rfl,rfl⟩;go_wp2_with fail;refine(HCT.out _).mono ?_;rintro e w2 ⟨rfl,q,rfl⟩;have K1:=ZZ (av (w.alloc (.cells #[.int .i64 0,.slice none 0 0,.slice none 0 0] 59)) q);go_wp2_with fail;refine(HDT.out _).mono ?_;rintro e w3 ⟨rfl,rfl⟩;go_wp2_with fail;refine(HDB.out _).mono ?_;rintro e w4 ⟨rfl,rfl⟩;obtain⟨z0,z1_,z2_,f0,f1,f2⟩:=ak (rowR K1.out);go_wp2_with fail;refine bodyPost_ret (v:=.tuple #[.agg #[.int .i64 0,.slice none 0 0,.slice none 0 0],.int .i64 6]) (by simp [results,Tryz.f19];go_simp) rfl ?_;exact⟨_,rfl,Nr.zero _,ap (al K0.out K1.out) (Nat.le_refl _) _ _ _,bln_mk blc_none blc_none⟩
theorem rparse_C0 (l body top bot:List UInt8) (sg:Int) (w:World) (hcp:PC l body sg) (hct:PT body top bot false) (hdt:PD top true) (htl:1<top.length) (hth:(top.head? == some 48)=true):PR l w 0 6:=by
 have HCP:=ZZ hcp;have HCT:=ZZ hct;have HDT:=ZZ hdt;have hsz:=bz top;have hsz2:=bz bot;have K0:=ZZ (ab w (.cells #[.int .i64 0,.slice none 0 0,.slice none 0 0] 59));clear hcp hct hdt;have t1:decide ((1:Int)<(top.length:Int))=true:=by simp;omega
 have t1':decide (1<top.length)=true:=by simp;omega
 have z1:0<(⟨top.toArray⟩:ByteArray).size:=by rw [hsz];omega
 have x1:=first_48 z1 true hth;clear hth;clear htl;unfold PR
 go_enter Tryz.func19,Tryz.ntmps19
 go_wp2_with fail;refine(HCP.out _).mono ?_
 rintro e w1 ⟨rfl,rfl⟩;go_wp2_with fail;refine(HCT.out _).mono ?_;rintro e w2 ⟨rfl,q,rfl⟩;have K1:=ZZ (av (w.alloc (.cells #[.int .i64 0,.slice none 0 0,.slice none 0 0] 59)) q);go_wp2_with fail;refine(HDT.out _).mono ?_;rintro e w3 ⟨rfl,rfl⟩;obtain⟨z0,z1_,z2_,f0,f1,f2⟩:=ak (rowR K1.out);go_wp2_with fail;refine bodyPost_ret (v:=.tuple #[.agg #[.int .i64 0,.slice none 0 0,.slice none 0 0],.int .i64 6]) (by simp [results,Tryz.f19];go_simp) rfl ?_;exact⟨_,rfl,Nr.zero _,ap (al K0.out K1.out) (Nat.le_refl _) _ _ _,bln_mk blc_none blc_none⟩
theorem rparse_C1 (l body top bot:List UInt8) (sg:Int) (w:World) (hcp:PC l body sg) (hct:PT body top bot true) (hdt:PD top true) (hdb:PD bot true) (htl:1<top.length) (hth:(top.head? == some 48)=true):PR l w 0 6:=by
 have HCP:=ZZ hcp;have HCT:=ZZ hct;have HDT:=ZZ hdt;have hsz:=bz top;have hsz2:=bz bot;have K0:=ZZ (ab w (.cells #[.int .i64 0,.slice none 0 0,.slice none 0 0] 59));have HDB:=ZZ hdb;clear hdb;clear hcp hct hdt;have t1:decide ((1:Int)<(top.length:Int))=true:=by simp;omega
 have t1':decide (1<top.length)=true:=by simp;omega
 have z1:0<(⟨top.toArray⟩:ByteArray).size:=by rw [hsz];omega
 have x1:=first_48 z1 true hth;clear hth;clear htl;unfold PR
 go_enter Tryz.func19,Tryz.ntmps19
 go_wp2_with fail;refine(HCP.out _).mono ?_
 rintro e w1 ⟨rfl,rfl⟩;go_wp2_with fail;refine(HCT.out _).mono ?_;rintro e w2 ⟨rfl,q,rfl⟩;have K1:=ZZ (av (w.alloc (.cells #[.int .i64 0,.slice none 0 0,.slice none 0 0] 59)) q);go_wp2_with fail;refine(HDT.out _).mono ?_;rintro e w3 ⟨rfl,rfl⟩;go_wp2_with fail;refine(HDB.out _).mono ?_;rintro e w4 ⟨rfl,rfl⟩;obtain⟨z0,z1_,z2_,f0,f1,f2⟩:=ak (rowR K1.out);go_wp2_with fail;refine bodyPost_ret (v:=.tuple #[.agg #[.int .i64 0,.slice none 0 0,.slice none 0 0],.int .i64 6]) (by simp [results,Tryz.f19];go_simp) rfl ?_;exact⟨_,rfl,Nr.zero _,ap (al K0.out K1.out) (Nat.le_refl _) _ _ _,bln_mk blc_none blc_none⟩
theorem rparse_D (l body top bot:List UInt8) (sg:Int) (w:World) (hcp:PC l body sg) (hct:PT body top bot true) (hdt:PD top true) (hdb:PD bot true) (hT:TS top) (hbl:0<bot.length) (hbh:(bot.head? == some 48)=true):PR l w 0 6:=by
 have HCP:=ZZ hcp;have HCT:=ZZ hct;have HDT:=ZZ hdt;have hsz:=bz top;have hsz2:=bz bot;have K0:=ZZ (ab w (.cells #[.int .i64 0,.slice none 0 0,.slice none 0 0] 59));have HDB:=ZZ hdb;clear hdb;clear hcp hct hdt;obtain⟨b1,t1,t1',x1⟩:=ts_b hT;clear hT
 cases b1
 all_goals
  first|(obtain⟨z1,x1⟩:=x1 rfl)|clear x1
  have z2:0<(⟨bot.toArray⟩:ByteArray).size:=by rw [hsz2];omega
  have x2:=first_48 z2 true hbh;clear hbh;clear hbl;unfold PR
  go_enter Tryz.func19,Tryz.ntmps19
  go_wp2_with fail;refine(HCP.out _).mono ?_
  rintro e w1 ⟨rfl,rfl⟩;go_wp2_with fail;refine(HCT.out _).mono ?_;rintro e w2 ⟨rfl,q,rfl⟩;have K1:=ZZ (av (w.alloc (.cells #[.int .i64 0,.slice none 0 0,.slice none 0 0] 59)) q);go_wp2_with fail;refine(HDT.out _).mono ?_;rintro e w3 ⟨rfl,rfl⟩;go_wp2_with fail;refine(HDB.out _).mono ?_;rintro e w4 ⟨rfl,rfl⟩;obtain⟨z0,z1_,z2_,f0,f1,f2⟩:=ak (rowR K1.out);go_wp2_with fail;refine bodyPost_ret (v:=.tuple #[.agg #[.int .i64 0,.slice none 0 0,.slice none 0 0],.int .i64 6]) (by simp [results,Tryz.f19];go_simp) rfl ?_;exact⟨_,rfl,Nr.zero _,ap (al K0.out K1.out) (Nat.le_refl _) _ _ _,bln_mk blc_none blc_none⟩
theorem rparse_E0 (l body top bot:List UInt8) (sg:Int) (w:World) (hcp:PC l body sg) (hct:PT body top bot false) (hdt:PD top true) (htl:top.length=1) (hng:decide (sg<0)=true) (hq0:(top == [48])=true):PR l w 0 6:=by
 have HCP:=ZZ hcp;have HCT:=ZZ hct;have HDT:=ZZ hdt;have hsz:=bz top;have hsz2:=bz bot;have K0:=ZZ (ab w (.cells #[.int .i64 0,.slice none 0 0,.slice none 0 0] 59));clear hcp hct hdt;have t1:decide ((1:Int)<(top.length:Int))=false:=by simp;omega
 have t1':decide (1<top.length)=false:=by simp;omega
 clear htl;unfold PR
 go_enter Tryz.func19,Tryz.ntmps19
 go_wp2_with fail;refine(HCP.out _).mono ?_
 rintro e w1 ⟨rfl,rfl⟩;go_wp2_with fail;refine(HCT.out _).mono ?_;rintro e w2 ⟨rfl,q,rfl⟩;have K1:=ZZ (av (w.alloc (.cells #[.int .i64 0,.slice none 0 0,.slice none 0 0] 59)) q);go_wp2_with fail;refine(HDT.out _).mono ?_;rintro e w3 ⟨rfl,rfl⟩;obtain⟨z0,z1_,z2_,f0,f1,f2⟩:=ak (rowR K1.out);go_wp2_with fail;refine bodyPost_ret (v:=.tuple #[.agg #[.int .i64 0,.slice none 0 0,.slice none 0 0],.int .i64 6]) (by simp [results,Tryz.f19];go_simp) rfl ?_;exact⟨_,rfl,Nr.zero _,ap (al K0.out K1.out) (Nat.le_refl _) _ _ _,bln_mk blc_none blc_none⟩
theorem rparse_E (l body top bot:List UInt8) (sg:Int) (w:World) (hcp:PC l body sg) (hct:PT body top bot true) (hdt:PD top true) (hdb:PD bot true) (htl:top.length=1) (hbl:0<bot.length) (hbh:(bot.head? == some 48)=false) (ng:Bool) (hng:decide (sg<0)=ng) (hq0:(top == [48])=true):PR l w 0 6:=by
 have HCP:=ZZ hcp;have HCT:=ZZ hct;have HDT:=ZZ hdt;have hsz:=bz top;have hsz2:=bz bot;have K0:=ZZ (ab w (.cells #[.int .i64 0,.slice none 0 0,.slice none 0 0] 59));have HDB:=ZZ hdb;clear hdb;clear hcp hct hdt;have t1:decide ((1:Int)<(top.length:Int))=false:=by simp;omega
 have t1':decide (1<top.length)=false:=by simp;omega
 have z2:0<(⟨bot.toArray⟩:ByteArray).size:=by rw [hsz2];omega
 have x2:=first_48 z2 false hbh;clear hbh;clear htl hbl
 cases ng
 all_goals
  unfold PR
  go_enter Tryz.func19,Tryz.ntmps19
  go_wp2_with fail;refine(HCP.out _).mono ?_
  rintro e w1 ⟨rfl,rfl⟩;go_wp2_with fail;refine(HCT.out _).mono ?_;rintro e w2 ⟨rfl,q,rfl⟩;have K1:=ZZ (av (w.alloc (.cells #[.int .i64 0,.slice none 0 0,.slice none 0 0] 59)) q);go_wp2_with fail;refine(HDT.out _).mono ?_;rintro e w3 ⟨rfl,rfl⟩;go_wp2_with fail;refine(HDB.out _).mono ?_;rintro e w4 ⟨rfl,rfl⟩;obtain⟨z0,z1_,z2_,f0,f1,f2⟩:=ak (rowR K1.out);go_wp2_with fail;refine bodyPost_ret (v:=.tuple #[.agg #[.int .i64 0,.slice none 0 0,.slice none 0 0],.int .i64 6]) (by simp [results,Tryz.f19];go_simp) rfl ?_;exact⟨_,rfl,Nr.zero _,ap (al K0.out K1.out) (Nat.le_refl _) _ _ _,bln_mk blc_none blc_none⟩
theorem rparse_F (l body top bot:List UInt8) (sg:Int) (w:World) (hcp:PC l body sg) (hct:PT body top bot true) (hdt:PD top true) (hdb:PD bot true) (hT:TS top) (hbl:0<bot.length) (hbh:(bot.head? == some 48)=false) (hq0:(top == [48])=false) (hq1:(bot == [49])=true):PR l w 0 6:=by
 have HCP:=ZZ hcp;have HCT:=ZZ hct;have HDT:=ZZ hdt;have hsz:=bz top;have hsz2:=bz bot;have K0:=ZZ (ab w (.cells #[.int .i64 0,.slice none 0 0,.slice none 0 0] 59));have HDB:=ZZ hdb;clear hdb;clear hcp hct hdt;obtain⟨b1,t1,t1',x1⟩:=ts_b hT;clear hT
 cases b1
 all_goals
  first|(obtain⟨z1,x1⟩:=x1 rfl)|clear x1
  have z2:0<(⟨bot.toArray⟩:ByteArray).size:=by rw [hsz2];omega
  have x2:=first_48 z2 false hbh;clear hbh;clear hbl;unfold PR
  go_enter Tryz.func19,Tryz.ntmps19
  go_wp2_with fail;refine(HCP.out _).mono ?_
  rintro e w1 ⟨rfl,rfl⟩;go_wp2_with fail;refine(HCT.out _).mono ?_;rintro e w2 ⟨rfl,q,rfl⟩;have K1:=ZZ (av (w.alloc (.cells #[.int .i64 0,.slice none 0 0,.slice none 0 0] 59)) q);go_wp2_with fail;refine(HDT.out _).mono ?_;rintro e w3 ⟨rfl,rfl⟩;go_wp2_with fail;refine(HDB.out _).mono ?_;rintro e w4 ⟨rfl,rfl⟩;obtain⟨z0,z1_,z2_,f0,f1,f2⟩:=ak (rowR K1.out);go_wp2_with fail;refine bodyPost_ret (v:=.tuple #[.agg #[.int .i64 0,.slice none 0 0,.slice none 0 0],.int .i64 6]) (by simp [results,Tryz.f19];go_simp) rfl ?_;exact⟨_,rfl,Nr.zero _,ap (al K0.out K1.out) (Nat.le_refl _) _ _ _,bln_mk blc_none blc_none⟩
theorem rparse_G0 (l body top bot:List UInt8) (sg:Int) (w:World) (hcp:PC l body sg) (hct:PT body top bot false) (hdt:PD top true) (htl:1<top.length) (hth:(top.head? == some 48)=false) (hq0:(top == [48])=false) (hq1:(bot == [49])=false) (hbt:1000<top.length):PR l w 0 3:=by
 have HCP:=ZZ hcp;have HCT:=ZZ hct;have HDT:=ZZ hdt;have hsz:=bz top;have hsz2:=bz bot;have K0:=ZZ (ab w (.cells #[.int .i64 0,.slice none 0 0,.slice none 0 0] 59));clear hcp hct hdt;have t1:decide ((1:Int)<(top.length:Int))=true:=by simp;omega
 have t1':decide (1<top.length)=true:=by simp;omega
 have z1:0<(⟨top.toArray⟩:ByteArray).size:=by rw [hsz];omega
 have x1:=first_48 z1 false hth;clear hth;have g1:decide ((1000:Int)<(top.length:Int))=true:=by simp;omega
 have g1':decide (1000<top.length)=true:=by simp;omega
 clear htl hbt;unfold PR
 go_enter Tryz.func19,Tryz.ntmps19
 go_wp2_with fail;refine(HCP.out _).mono ?_
 rintro e w1 ⟨rfl,rfl⟩;go_wp2_with fail;refine(HCT.out _).mono ?_;rintro e w2 ⟨rfl,q,rfl⟩;have K1:=ZZ (av (w.alloc (.cells #[.int .i64 0,.slice none 0 0,.slice none 0 0] 59)) q);go_wp2_with fail;refine(HDT.out _).mono ?_;rintro e w3 ⟨rfl,rfl⟩;obtain⟨z0,z1_,z2_,f0,f1,f2⟩:=ak (rowR K1.out);go_wp2_with fail;refine bodyPost_ret (v:=.tuple #[.agg #[.int .i64 0,.slice none 0 0,.slice none 0 0],.int .i64 3]) (by simp [results,Tryz.f19];go_simp) rfl ?_;exact⟨_,rfl,Nr.zero _,ap (al K0.out K1.out) (Nat.le_refl _) _ _ _,bln_mk blc_none blc_none⟩
theorem rparse_G1 (l body top bot:List UInt8) (sg:Int) (w:World) (hcp:PC l body sg) (hct:PT body top bot true) (hdt:PD top true) (hdb:PD bot true) (htl:1<top.length) (hth:(top.head? == some 48)=false) (hbl:0<bot.length) (hbh:(bot.head? == some 48)=false) (hq0:(top == [48])=false) (hq1:(bot == [49])=false) (hbt:1000<top.length):PR l w 0 3:=by
 have HCP:=ZZ hcp;have HCT:=ZZ hct;have HDT:=ZZ hdt;have hsz:=bz top;have hsz2:=bz bot;have K0:=ZZ (ab w (.cells #[.int .i64 0,.slice none 0 0,.slice none 0 0] 59));have HDB:=ZZ hdb;clear hdb;clear hcp hct hdt;have t1:decide ((1:Int)<(top.length:Int))=true:=by simp;omega
 have t1':decide (1<top.length)=true:=by simp;omega
 have z1:0<(⟨top.toArray⟩:ByteArray).size:=by rw [hsz];omega
 have x1:=first_48 z1 false hth;clear hth;have z2:0<(⟨bot.toArray⟩:ByteArray).size:=by rw [hsz2];omega
 have x2:=first_48 z2 false hbh;clear hbh;have g1:decide ((1000:Int)<(top.length:Int))=true:=by simp;omega
 have g1':decide (1000<top.length)=true:=by simp;omega
 clear htl hbl hbt;unfold PR
 go_enter Tryz.func19,Tryz.ntmps19
 go_wp2_with fail;refine(HCP.out _).mono ?_
 rintro e w1 ⟨rfl,rfl⟩;go_wp2_with fail;refine(HCT.out _).mono ?_;rintro e w2 ⟨rfl,q,rfl⟩;have K1:=ZZ (av (w.alloc (.cells #[.int .i64 0,.slice none 0 0,.slice none 0 0] 59)) q);go_wp2_with fail;refine(HDT.out _).mono ?_;rintro e w3 ⟨rfl,rfl⟩;go_wp2_with fail;refine(HDB.out _).mono ?_;rintro e w4 ⟨rfl,rfl⟩;obtain⟨z0,z1_,z2_,f0,f1,f2⟩:=ak (rowR K1.out);go_wp2_with fail;refine bodyPost_ret (v:=.tuple #[.agg #[.int .i64 0,.slice none 0 0,.slice none 0 0],.int .i64 3]) (by simp [results,Tryz.f19];go_simp) rfl ?_;exact⟨_,rfl,Nr.zero _,ap (al K0.out K1.out) (Nat.le_refl _) _ _ _,bln_mk blc_none blc_none⟩
theorem rparse_H (l body top bot:List UInt8) (sg:Int) (w:World) (hcp:PC l body sg) (hct:PT body top bot true) (hdt:PD top true) (hdb:PD bot true) (hT:TS top) (hbl:0<bot.length) (hbh:(bot.head? == some 48)=false) (hq0:(top == [48])=false) (hq1:(bot == [49])=false) (hbt:top.length≤1000) (hbb:1000<bot.length):PR l w 0 3:=by
 have HCP:=ZZ hcp;have HCT:=ZZ hct;have HDT:=ZZ hdt;have hsz:=bz top;have hsz2:=bz bot;have K0:=ZZ (ab w (.cells #[.int .i64 0,.slice none 0 0,.slice none 0 0] 59));have HDB:=ZZ hdb;clear hdb;clear hcp hct hdt;obtain⟨b1,t1,t1',x1⟩:=ts_b hT;clear hT
 cases b1
 all_goals
  first|(obtain⟨z1,x1⟩:=x1 rfl)|clear x1
  have z2:0<(⟨bot.toArray⟩:ByteArray).size:=by rw [hsz2];omega
  have x2:=first_48 z2 false hbh;clear hbh;have g1:decide ((1000:Int)<(top.length:Int))=false:=by simp;omega
  have g1':decide (1000<top.length)=false:=by simp;omega
  have g2:decide ((1000:Int)<(bot.length:Int))=true:=by simp;omega
  have g2':decide (1000<bot.length)=true:=by simp;omega
  clear hbl hbt hbb;unfold PR
  go_enter Tryz.func19,Tryz.ntmps19
  go_wp2_with fail;refine(HCP.out _).mono ?_
  rintro e w1 ⟨rfl,rfl⟩;go_wp2_with fail;refine(HCT.out _).mono ?_;rintro e w2 ⟨rfl,q,rfl⟩;have K1:=ZZ (av (w.alloc (.cells #[.int .i64 0,.slice none 0 0,.slice none 0 0] 59)) q);go_wp2_with fail;refine(HDT.out _).mono ?_;rintro e w3 ⟨rfl,rfl⟩;go_wp2_with fail;refine(HDB.out _).mono ?_;rintro e w4 ⟨rfl,rfl⟩;obtain⟨z0,z1_,z2_,f0,f1,f2⟩:=ak (rowR K1.out);go_wp2_with fail;refine bodyPost_ret (v:=.tuple #[.agg #[.int .i64 0,.slice none 0 0,.slice none 0 0],.int .i64 3]) (by simp [results,Tryz.f19];go_simp) rfl ?_;exact⟨_,rfl,Nr.zero _,ap (al K0.out K1.out) (Nat.le_refl _) _ _ _,bln_mk blc_none blc_none⟩
theorem rparse_I0 (l body top bot:List UInt8) (sg:Int) (w:World) (hcp:PC l body sg) (hct:PT body top bot false) (hdt:PD top true) (htl:top.length=1) (hng:decide (sg<0)=false) (hq0:(top == [48])=true) (hq1:(bot == [49])=false) (hbt:top.length≤1000) (hbb:bot.length≤1000) (neg:Bool) (hsg:sgnB neg=sg) (hd1:∀c ∈ top,isDig c=true):PR l w (rat neg (natOf top) 1) 0:=by
 have HCP:=ZZ hcp;have HCT:=ZZ hct;have HDT:=ZZ hdt;have hsz:=bz top;have hsz2:=bz bot;have K0:=ZZ (ab w (.cells #[.int .i64 0,.slice none 0 0,.slice none 0 0] 59));clear hcp hct hdt;have t1:decide ((1:Int)<(top.length:Int))=false:=by simp;omega
 have t1':decide (1<top.length)=false:=by simp;omega
 have g1:decide ((1000:Int)<(top.length:Int))=false:=by simp;omega
 have g1':decide (1000<top.length)=false:=by simp;omega
 have g2:decide ((1000:Int)<(bot.length:Int))=false:=by simp;omega
 have g2':decide (1000<bot.length)=false:=by simp;omega
 have HSG:=ZZ hsg;have HD1:=ZZ hd1;have HL1:=ZZ (show top.length≤1000000 by omega);have LN1:=ZZ (dr_ten (natOf_lt top hd1));clear hsg hd1;clear htl hbt hbb;unfold PR
 go_enter Tryz.func19,Tryz.ntmps19
 go_wp2_with fail;refine(HCP.out _).mono ?_
 rintro e w1 ⟨rfl,rfl⟩;go_wp2_with fail;refine(HCT.out _).mono ?_;rintro e w2 ⟨rfl,q,rfl⟩;have K1:=ZZ (av (w.alloc (.cells #[.int .i64 0,.slice none 0 0,.slice none 0 0] 59)) q);go_wp2_with fail;refine(HDT.out _).mono ?_;rintro e w3 ⟨rfl,rfl⟩;go_wp2_with fail;refine(natural_f top HD1.out HL1.out _).mono ?_;rintro e w5 ⟨V5,rfl,h2,k2,fr⟩;have FA5:=ZZ (fr.mono (al K0.out K1.out).size);clear fr;obtain⟨PV5,pV5,cV5,rfl⟩:=h2.form';have G5:=ZZ h2;have K2:=ZZ (al K1.out k2);clear h2 k2;go_wp2_with fail;refine(one_f _).mono ?_;rintro e w6 ⟨V6,rfl,h2,k2,fr⟩;have FA6:=ZZ (fr.mono (al K0.out K2.out).size);clear fr;obtain⟨P6,p6,c6,rfl⟩:=h2.form';have G6:=ZZ h2;have G5':=ZZ (G5.out.mono k2);have K3:=ZZ (al K2.out k2);clear h2 k2;go_wp2_with fail;refine(made_f neg sg HSG.out _ _ (natOf top) 1 (by omega) _ G5'.out G6.out (by have:=LN1.out;have:=HL1.out;omega) (by rw [dr_one];simp)).mono ?_;rintro e w7 ⟨V7,rfl,h2,k2,frm⟩;have FA7:=ZZ (frm.2 (w.heap.size≤·) (fun b hb=>Nat.le_trans (al K0.out K3.out).size hb) (FA5.out.blc (fun _ h=>h)) (FA6.out.blc (fun _ h=>h)));clear frm;obtain⟨s7,A7,k7,c7,B7,l7,d7,rfl,-⟩:=h2.form;have G7:=ZZ h2;have K4:=ZZ (al K3.out k2);clear h2 k2;obtain⟨z0,z1_,z2_,f0,f1,f2⟩:=ak (rowR K4.out);go_wp2_with fail;refine bodyPost_ret (v:=.tuple #[.agg #[.int .i64 s7,.slice A7 k7 c7,.slice B7 l7 d7],.int .i64 0]) (by simp [results,Tryz.f19];go_simp) rfl ?_;exact⟨_,rfl,Nr.put_z G7.out (rowR K4.out) _ _ _,ap (al K0.out K4.out) (Nat.le_refl _) _ _ _,FA7.out⟩
theorem rparse_I (l body top bot:List UInt8) (sg:Int) (w:World) (hcp:PC l body sg) (hct:PT body top bot false) (hdt:PD top true) (hT:TS top) (hq0:(top == [48])=false) (hq1:(bot == [49])=false) (hbt:top.length≤1000) (hbb:bot.length≤1000) (neg:Bool) (hsg:sgnB neg=sg) (hd1:∀c ∈ top,isDig c=true):PR l w (rat neg (natOf top) 1) 0:=by
 have HCP:=ZZ hcp;have HCT:=ZZ hct;have HDT:=ZZ hdt;have hsz:=bz top;have hsz2:=bz bot;have K0:=ZZ (ab w (.cells #[.int .i64 0,.slice none 0 0,.slice none 0 0] 59));clear hcp hct hdt;obtain⟨b1,t1,t1',x1⟩:=ts_b hT;clear hT
 cases b1
 all_goals
  first|(obtain⟨z1,x1⟩:=x1 rfl)|clear x1
  have g1:decide ((1000:Int)<(top.length:Int))=false:=by simp;omega
  have g1':decide (1000<top.length)=false:=by simp;omega
  have g2:decide ((1000:Int)<(bot.length:Int))=false:=by simp;omega
  have g2':decide (1000<bot.length)=false:=by simp;omega
  have HSG:=ZZ hsg;have HD1:=ZZ hd1;have HL1:=ZZ (show top.length≤1000000 by omega);have LN1:=ZZ (dr_ten (natOf_lt top hd1));clear hsg hd1;clear hbt hbb;unfold PR
  go_enter Tryz.func19,Tryz.ntmps19
  go_wp2_with fail;refine(HCP.out _).mono ?_
  rintro e w1 ⟨rfl,rfl⟩;go_wp2_with fail;refine(HCT.out _).mono ?_;rintro e w2 ⟨rfl,q,rfl⟩;have K1:=ZZ (av (w.alloc (.cells #[.int .i64 0,.slice none 0 0,.slice none 0 0] 59)) q);go_wp2_with fail;refine(HDT.out _).mono ?_;rintro e w3 ⟨rfl,rfl⟩;go_wp2_with fail;refine(natural_f top HD1.out HL1.out _).mono ?_;rintro e w5 ⟨V5,rfl,h2,k2,fr⟩;have FA5:=ZZ (fr.mono (al K0.out K1.out).size);clear fr;obtain⟨PV5,pV5,cV5,rfl⟩:=h2.form';have G5:=ZZ h2;have K2:=ZZ (al K1.out k2);clear h2 k2;go_wp2_with fail;refine(one_f _).mono ?_;rintro e w6 ⟨V6,rfl,h2,k2,fr⟩;have FA6:=ZZ (fr.mono (al K0.out K2.out).size);clear fr;obtain⟨P6,p6,c6,rfl⟩:=h2.form';have G6:=ZZ h2;have G5':=ZZ (G5.out.mono k2);have K3:=ZZ (al K2.out k2);clear h2 k2;go_wp2_with fail;refine(made_f neg sg HSG.out _ _ (natOf top) 1 (by omega) _ G5'.out G6.out (by have:=LN1.out;have:=HL1.out;omega) (by rw [dr_one];simp)).mono ?_;rintro e w7 ⟨V7,rfl,h2,k2,frm⟩;have FA7:=ZZ (frm.2 (w.heap.size≤·) (fun b hb=>Nat.le_trans (al K0.out K3.out).size hb) (FA5.out.blc (fun _ h=>h)) (FA6.out.blc (fun _ h=>h)));clear frm;obtain⟨s7,A7,k7,c7,B7,l7,d7,rfl,-⟩:=h2.form;have G7:=ZZ h2;have K4:=ZZ (al K3.out k2);clear h2 k2;obtain⟨z0,z1_,z2_,f0,f1,f2⟩:=ak (rowR K4.out);go_wp2_with fail;refine bodyPost_ret (v:=.tuple #[.agg #[.int .i64 s7,.slice A7 k7 c7,.slice B7 l7 d7],.int .i64 0]) (by simp [results,Tryz.f19];go_simp) rfl ?_;exact⟨_,rfl,Nr.put_z G7.out (rowR K4.out) _ _ _,ap (al K0.out K4.out) (Nat.le_refl _) _ _ _,FA7.out⟩
theorem rparse_J (l body top bot:List UInt8) (sg:Int) (w:World) (hcp:PC l body sg) (hct:PT body top bot true) (hdt:PD top true) (hdb:PD bot true) (hT:TS top) (hbl:0<bot.length) (hbh:(bot.head? == some 48)=false) (hq0:(top == [48])=false) (hq1:(bot == [49])=false) (hbt:top.length≤1000) (hbb:bot.length≤1000) (neg:Bool) (hsg:sgnB neg=sg) (hd1:∀c ∈ top,isDig c=true) (hd2:∀c ∈ bot,isDig c=true) (hn1:0<natOf top) (hn2:0<natOf bot) (hg:Nat.gcd (natOf top) (natOf bot)=1):PR l w (rat neg (natOf top) (natOf bot)) 0:=by
 have HCP:=ZZ hcp;have HCT:=ZZ hct;have HDT:=ZZ hdt;have hsz:=bz top;have hsz2:=bz bot;have K0:=ZZ (ab w (.cells #[.int .i64 0,.slice none 0 0,.slice none 0 0] 59));have HDB:=ZZ hdb;clear hdb;clear hcp hct hdt;obtain⟨b1,t1,t1',x1⟩:=ts_b hT;clear hT
 cases b1
 all_goals
  first|(obtain⟨z1,x1⟩:=x1 rfl)|clear x1
  have z2:0<(⟨bot.toArray⟩:ByteArray).size:=by rw [hsz2];omega
  have x2:=first_48 z2 false hbh;clear hbh;have g1:decide ((1000:Int)<(top.length:Int))=false:=by simp;omega
  have g1':decide (1000<top.length)=false:=by simp;omega
  have g2:decide ((1000:Int)<(bot.length:Int))=false:=by simp;omega
  have g2':decide (1000<bot.length)=false:=by simp;omega
  have HSG:=ZZ hsg;have HD1:=ZZ hd1;have HL1:=ZZ (show top.length≤1000000 by omega);have LN1:=ZZ (dr_ten (natOf_lt top hd1));clear hsg hd1;have HD2:=ZZ hd2;have HL2:=ZZ (show bot.length≤1000000 by omega);have LN2:=ZZ (dr_ten (natOf_lt bot hd2));have HN1:=ZZ hn1;have HN2:=ZZ hn2;have HG:=ZZ hg;clear hd2 hn1 hn2 hg;clear hbl hbt hbb;unfold PR
  go_enter Tryz.func19,Tryz.ntmps19
  go_wp2_with fail;refine(HCP.out _).mono ?_
  rintro e w1 ⟨rfl,rfl⟩;go_wp2_with fail;refine(HCT.out _).mono ?_;rintro e w2 ⟨rfl,q,rfl⟩;have K1:=ZZ (av (w.alloc (.cells #[.int .i64 0,.slice none 0 0,.slice none 0 0] 59)) q);go_wp2_with fail;refine(HDT.out _).mono ?_;rintro e w3 ⟨rfl,rfl⟩;go_wp2_with fail;refine(HDB.out _).mono ?_;rintro e w4 ⟨rfl,rfl⟩;go_wp2_with fail;refine(natural_f top HD1.out HL1.out _).mono ?_;rintro e w5 ⟨V5,rfl,h2,k2,fr⟩;have FA5:=ZZ (fr.mono (al K0.out K1.out).size);clear fr;obtain⟨PV5,pV5,cV5,rfl⟩:=h2.form';have G5:=ZZ h2;have K2:=ZZ (al K1.out k2);clear h2 k2;go_wp2_with fail;refine(natural_f bot HD2.out HL2.out _).mono ?_;rintro e w6 ⟨V6,rfl,h2,k2,fr⟩;have FA6:=ZZ (fr.mono (al K0.out K2.out).size);clear fr;obtain⟨PV6,pV6,cV6,rfl⟩:=h2.form';have G6:=ZZ h2;have K3:=ZZ (al K2.out k2);have G5':=ZZ (G5.out.mono k2);clear h2 k2;go_wp2_with fail;refine(divisor_r _ _ (natOf top) (natOf bot) HN2.out _ G5'.out G6.out (by have:=LN1.out;have:=HL1.out;omega) (by have:=LN2.out;have:=HL2.out;omega)).mono ?_;rintro e w7 ⟨V7,rfl,h2,k2⟩;obtain⟨P7,p7,c7,rfl⟩:=h2.form';have G7:=ZZ h2;have G5t:=ZZ (G5'.out.mono k2);have G6t:=ZZ (G6.out.mono k2);have K4:=ZZ (al K3.out k2);clear h2 k2;obtain⟨z0,z1_,z2_,f0,f1,f2⟩:=ak (rowR K4.out);go_wp2_with fail;refine(is1_r _ (Nat.gcd (natOf top) (natOf bot)) true (by first|exact decide_eq_true HG.out|exact decide_eq_false HG.out) _ G7.out).mono ?_;rintro e wi ⟨rfl,rfl⟩;go_wp2_with fail
  refine bodyPost_ret (v:=.tuple #[.agg #[.int .i64 sg,.slice PV5 pV5 cV5,.slice PV6 pV6 cV6],.int .i64 0]) (by simp [results,Tryz.f19];go_simp) rfl ?_;refine⟨_,rfl,Nr.put_z ?_ (rowR K4.out) _ _ _,ap (al K0.out K4.out) (Nat.le_refl _) _ _ _,bln_mk (FA5.out.blc (fun _ h=>h)) (FA6.out.blc (fun _ h=>h))⟩;exact nr_mk HSG.out HN1.out HN2.out (by rw [HG.out,Nat.div_one]) (by rw [HG.out,Nat.div_one]) G5t.out G6t.out
theorem rparse_K (l body top bot:List UInt8) (sg:Int) (w:World) (hcp:PC l body sg) (hct:PT body top bot true) (hdt:PD top true) (hdb:PD bot true) (hT:TS top) (hbl:0<bot.length) (hbh:(bot.head? == some 48)=false) (hq0:(top == [48])=false) (hq1:(bot == [49])=false) (hbt:top.length≤1000) (hbb:bot.length≤1000) (neg:Bool) (hsg:sgnB neg=sg) (hd1:∀c ∈ top,isDig c=true) (hd2:∀c ∈ bot,isDig c=true) (hn1:0<natOf top) (hn2:0<natOf bot) (hg:¬ Nat.gcd (natOf top) (natOf bot)=1):PR l w 0 6:=by
 have HCP:=ZZ hcp;have HCT:=ZZ hct;have HDT:=ZZ hdt;have hsz:=bz top;have hsz2:=bz bot;have K0:=ZZ (ab w (.cells #[.int .i64 0,.slice none 0 0,.slice none 0 0] 59));have HDB:=ZZ hdb;clear hdb;clear hcp hct hdt;obtain⟨b1,t1,t1',x1⟩:=ts_b hT;clear hT
 cases b1
 all_goals
  first|(obtain⟨z1,x1⟩:=x1 rfl)|clear x1
  have z2:0<(⟨bot.toArray⟩:ByteArray).size:=by rw [hsz2];omega
  have x2:=first_48 z2 false hbh;clear hbh;have g1:decide ((1000:Int)<(top.length:Int))=false:=by simp;omega
  have g1':decide (1000<top.length)=false:=by simp;omega
  have g2:decide ((1000:Int)<(bot.length:Int))=false:=by simp;omega
  have g2':decide (1000<bot.length)=false:=by simp;omega
  have HSG:=ZZ hsg;have HD1:=ZZ hd1;have HL1:=ZZ (show top.length≤1000000 by omega);have LN1:=ZZ (dr_ten (natOf_lt top hd1));clear hsg hd1;have HD2:=ZZ hd2;have HL2:=ZZ (show bot.length≤1000000 by omega);have LN2:=ZZ (dr_ten (natOf_lt bot hd2));have HN1:=ZZ hn1;have HN2:=ZZ hn2;have HG:=ZZ hg;clear hd2 hn1 hn2 hg;clear hbl hbt hbb;unfold PR
  go_enter Tryz.func19,Tryz.ntmps19
  go_wp2_with fail;refine(HCP.out _).mono ?_
  rintro e w1 ⟨rfl,rfl⟩;go_wp2_with fail;refine(HCT.out _).mono ?_;rintro e w2 ⟨rfl,q,rfl⟩;have K1:=ZZ (av (w.alloc (.cells #[.int .i64 0,.slice none 0 0,.slice none 0 0] 59)) q);go_wp2_with fail;refine(HDT.out _).mono ?_;rintro e w3 ⟨rfl,rfl⟩;go_wp2_with fail;refine(HDB.out _).mono ?_;rintro e w4 ⟨rfl,rfl⟩;go_wp2_with fail;refine(natural_r top HD1.out HL1.out _).mono ?_;rintro e w5 ⟨V5,rfl,h2,k2⟩;obtain⟨PV5,pV5,cV5,rfl⟩:=h2.form';have G5:=ZZ h2;have K2:=ZZ (al K1.out k2);clear h2 k2;go_wp2_with fail;refine(natural_r bot HD2.out HL2.out _).mono ?_;rintro e w6 ⟨V6,rfl,h2,k2⟩;obtain⟨PV6,pV6,cV6,rfl⟩:=h2.form';have G6:=ZZ h2;have K3:=ZZ (al K2.out k2);have G5':=ZZ (G5.out.mono k2);clear h2 k2;go_wp2_with fail;refine(divisor_r _ _ (natOf top) (natOf bot) HN2.out _ G5'.out G6.out (by have:=LN1.out;have:=HL1.out;omega) (by have:=LN2.out;have:=HL2.out;omega)).mono ?_;rintro e w7 ⟨V7,rfl,h2,k2⟩;obtain⟨P7,p7,c7,rfl⟩:=h2.form';have G7:=ZZ h2;have G5t:=ZZ (G5'.out.mono k2);have G6t:=ZZ (G6.out.mono k2);have K4:=ZZ (al K3.out k2);clear h2 k2;obtain⟨z0,z1_,z2_,f0,f1,f2⟩:=ak (rowR K4.out);go_wp2_with fail;refine(is1_r _ (Nat.gcd (natOf top) (natOf bot)) false (by first|exact decide_eq_true HG.out|exact decide_eq_false HG.out) _ G7.out).mono ?_;rintro e wi ⟨rfl,rfl⟩;go_wp2_with fail;refine bodyPost_ret (v:=.tuple #[.agg #[.int .i64 0,.slice none 0 0,.slice none 0 0],.int .i64 6]) (by simp [results,Tryz.f19];go_simp) rfl ?_
  exact⟨_,rfl,Nr.zero _,ap (al K0.out K4.out) (Nat.le_refl _) _ _ _,bln_mk blc_none blc_none⟩
theorem plainB_eq (l:List UInt8):plainB l=(digB l && (l == [48] || l.head? != some 48)):=rfl
theorem eq_one {l:List UInt8} {c:UInt8} (h:¬ l=[c]):(l == [c])=false:=by rw [beq_eq_false_iff_ne];exact h
theorem eq_yes {l:List UInt8} {c:UInt8} (h:l=[c]):(l == [c])=true:=by rw [h];exact beq_self_eq_true _
theorem dig_len {l:List UInt8} (h:digB l=true):0<l.length:=by
 cases l with
 | nil=>simp [digB] at h
 | cons a l=>simp
theorem dig_all {l:List UInt8} (h:digB l=true):∀c ∈ l,isDig c=true:=by
 unfold digB at h;rw [Bool.and_eq_true] at h;exact List.all_eq_true.1 h.2
theorem top_shape {l:List UInt8} (h:digB l=true):(plainB l=false∧1<l.length∧(l.head? == some 48)=true)∨(plainB l=true∧l.length=1)∨(plainB l=true∧1<l.length∧(l.head? == some 48)=false):=by
 have hl:=dig_len h;rw [plainB_eq,h,Bool.true_and]
 match l,hl with
 | [c],_=>
  right;left
  refine⟨?_,rfl⟩
  by_cases hc:c=48
  ·subst hc;rfl
  ·simp [hc]
 | c :: d :: l,_=>
  by_cases hc:c=48
  ·subst hc;left;exact⟨by simp,by simp,by simp⟩
  ·right;right;exact⟨by simp [hc],by simp,by simp [hc]⟩
theorem bot_shape {l:List UInt8} (h:digB l=true):((l.head? == some 48)=true∧(plainB l=false∨l=[48]))∨((l.head? == some 48)=false∧plainB l=true∧¬ l=[48]):=by
 rw [plainB_eq,h,Bool.true_and]
 by_cases hc:(l.head? == some 48)=true
 ·left
  refine⟨hc,?_⟩
  by_cases h1:l=[48]
  ·exact .inr h1
  ·left;rw [eq_one h1,Bool.false_or,bne,hc];rfl
 ·right
  have hc':(l.head? == some 48)=false:=by simpa using hc
  refine⟨hc',by rw [bne,hc'];simp,?_⟩;rintro rfl;simp at hc
def ParseF (l:List UInt8) (w w':World) (e:Ending):Prop:=∃v,e=.returned (.tuple #[v,.int .i64 (parseS l).1])∧Nr w' v (parseS l).2∧Ext w w'∧BlN (w.heap.size≤·) v
theorem parse_f (l:List UInt8) (hs:l.length≤9223372036854775807) (w:World):Calls Tryz.prog 19 #[.string ⟨l.toArray⟩] w fun e w'=>ParseF l w w' e:=by
 have hcp:=signed_r l hs;have hrl:=restB_len l;have hcl:=cutB_len 47 (restB l);have hct:∀W,Calls Tryz.prog 55 #[.string ⟨(restB l).toArray⟩,.int .u8 47] W fun e w'=>e=.returned (.tuple #[.string ⟨(cutB 47 (restB l)).1.toArray⟩,.string ⟨(cutB 47 (restB l)).2.1.toArray⟩,.bool (cutB 47 (restB l)).2.2])∧∃q,w'=W.drewN q:=fun W=>split_r (restB l) 47 (by omega) W;unfold ParseF parseS;generalize restB l=body at *;obtain⟨neg,hneg⟩:∃b,b=minusB l:=⟨_,rfl⟩;obtain⟨sg,hsg⟩:∃s,sgnB neg=s:=⟨_,rfl⟩;rw [←hneg,hsg] at hcp;rw [←hneg];clear hneg;have hlt:decide (sg<0)=neg:=by rw [←hsg];cases neg <;> rfl
 generalize cutB 47 body=c at *;obtain⟨top,bot,two⟩:=c
 dsimp only at hct hcl ⊢
 have a2:top.length≤9223372036854775807:=by omega
 have a3:bot.length≤9223372036854775807:=by omega
 have hdt:=digits_r top a2;have hdb:=digits_r bot a3;clear hrl
 by_cases d1:digB top=false
 ·have hp:plainB top=false:=by rw [plainB_eq,d1];rfl
  rw [if_pos hp];rw [d1] at hdt;exact rparse_A l body top bot sg two w hcp hct hdt
 replace d1:digB top=true:=by simpa using d1
 rw [d1] at hdt;have hd1:=dig_all d1
 by_cases d2:two=true∧digB bot=false
 ·obtain⟨rfl,d2⟩:=d2
  rw [d2] at hdb;have hp:plainB bot=false:=by rw [plainB_eq,d2];rfl
  have h6:=rparse_Bd l body top bot sg w hcp hct hdt hdb;unfold PR at h6
  by_cases p1:plainB top=false
  ·rw [if_pos p1];exact h6
  ·rw [if_neg p1]
   by_cases p2:top=[48]∧(neg=true∨true=true)
   ·rw [if_pos p2];exact h6
   ·rw [if_neg p2,if_pos ⟨rfl,.inl hp⟩];exact h6
 have hdb2:two=true→digB bot=true:=fun h=>by
  cases hb:digB bot with
  | true=>rfl
  | false=>exact absurd ⟨h,hb⟩ d2
 clear d2
 rcases top_shape d1 with ⟨p1,ht1,ht2⟩|hT
 ·rw [if_pos p1]
  cases two
  ·exact rparse_C0 l body top bot sg w hcp hct hdt ht1 ht2
  ·rw [hdb2 rfl] at hdb
   exact rparse_C1 l body top bot sg w hcp hct hdt hdb ht1 ht2
 have p1:plainB top=true:=by rcases hT with h|h <;> exact h.1
 have hS:TS top:=by
  rcases hT with ⟨-,h⟩|⟨-,h,k⟩
  ·exact .inl h
  ·exact .inr ⟨h,k⟩
 rw [if_neg (by rw [p1];exact Bool.noConfusion)]
 cases two
 ·obtain rfl:bot=[]:=hcl.2.2 rfl
  by_cases h0:top=[48]
  ·have ht1:top.length=1:=by rw [h0];rfl
   have q0:=eq_yes h0
   cases hn:neg
   ·subst hn
    rw [if_neg (by simp),if_neg (by simp),if_neg (by rw [h0];simp),if_pos rfl];exact rparse_I0 l body top [] sg w hcp hct hdt ht1 hlt q0 rfl (by rw [h0];simp) (by simp) false hsg hd1
   ·subst hn
    rw [if_pos ⟨h0,.inl rfl⟩];exact rparse_E0 l body top [] sg w hcp hct hdt ht1 hlt q0
  ·have q0:=eq_one h0
   rw [if_neg (fun h=>h0 h.1),if_neg (by simp)]
   by_cases hb:1000<top.length
   ·rw [if_pos (.inl hb)]
    rcases hT with ⟨-,ht⟩|⟨-,ht1,ht2⟩
    ·omega
    ·exact rparse_G0 l body top [] sg w hcp hct hdt ht1 ht2 q0 rfl hb
   ·rw [if_neg (by simp;omega),if_pos rfl]
    exact rparse_I l body top [] sg w hcp hct hdt hS q0 rfl (by omega) (by simp) neg hsg hd1
 ·have d2:=hdb2 rfl
  rw [d2] at hdb;have hd2:=dig_all d2;have hbl:=dig_len d2
  rcases bot_shape d2 with ⟨hb1,hb2⟩|⟨hb1,hb2,hb3⟩
  ·have h6:Calls Tryz.prog 19 #[.string ⟨l.toArray⟩] w fun e w'=>∃v,e=.returned (.tuple #[v,.int .i64 6])∧Nr w' v 0∧Ext w w'∧BlN (w.heap.size≤·) v:=by
    exact rparse_D l body top bot sg w hcp hct hdt hdb hS hbl hb1
   by_cases p2:top=[48]∧(neg=true∨true=true)
   ·rw [if_pos p2];exact h6
   ·rw [if_neg p2,if_pos ⟨rfl,by rcases hb2 with h|h;exact .inl h;exact .inr (.inl h)⟩];exact h6
  ·by_cases h0:top=[48]
   ·have ht1:top.length=1:=by rw [h0];rfl
    have q0:=eq_yes h0;rw [if_pos ⟨h0,.inr rfl⟩]
    cases hn:neg
    ·subst hn
     exact rparse_E l body top bot sg w hcp hct hdt hdb ht1 hbl hb1 false hlt q0
    ·subst hn
     exact rparse_E l body top bot sg w hcp hct hdt hdb ht1 hbl hb1 true hlt q0
   ·have q0:=eq_one h0
    rw [if_neg (fun h=>h0 h.1)]
    by_cases h1:bot=[49]
    ·have q1:=eq_yes h1
     rw [if_pos ⟨rfl,.inr (.inr h1)⟩];exact rparse_F l body top bot sg w hcp hct hdt hdb hS hbl hb1 q0 q1
    ·have q1:=eq_one h1
     rw [if_neg (by rintro⟨-,h|h|h⟩;rw [hb2] at h;cases h;exact hb3 h;exact h1 h)]
     by_cases hb:1000<top.length
     ·rw [if_pos (.inl hb)]
      rcases hT with ⟨-,ht⟩|⟨-,ht1,ht2⟩
      ·omega
      ·exact rparse_G1 l body top bot sg w hcp hct hdt hdb ht1 ht2 hbl hb1 q0 q1 hb
     ·by_cases hbb:1000<bot.length
      ·rw [if_pos (.inr hbb)]
       exact rparse_H l body top bot sg w hcp hct hdt hdb hS hbl hb1 q0 q1 (by omega) hbb
      ·rw [if_neg (by omega),if_neg (by simp)]
       have n1:=plain_pos p1 h0;have n2:=plain_pos hb2 hb3
       by_cases hg:Nat.gcd (natOf top) (natOf bot)=1
       ·rw [if_pos hg]
        exact rparse_J l body top bot sg w hcp hct hdt hdb hS hbl hb1 q0 q1 (by omega) (by omega) neg hsg hd1 hd2 n1 n2 hg
       ·rw [if_neg hg]
        exact rparse_K l body top bot sg w hcp hct hdt hdb hS hbl hb1 q0 q1 (by omega) (by omega) neg hsg hd1 hd2 n1 n2 hg
end Go.Proofs.YtkoaakefgacokaaGreatDoor
