/- Whether a span of the program is one of the reference: Alike returns true of two spans with the same ends. Printed by gen_sn.py. -/
import Derived.Test.YtpgdefgdboijlaaGreatDoorSf
import Derived.Test.YtpgdefgdboijlaaGreatDoorLs
set_option linter.unusedVariables false
set_option maxRecDepth 100000
set_option maxHeartbeats 16000000
namespace Go.Proofs.YtpgdefgdboijlaaGreatDoor
open Go.RowKit
theorem alike_c (M:Nat) (hM:M≤1099511627776) (v1 v2:Value) (lo hi:Rat) (w:World) (h:Sp w v1 lo hi) (k:SpR w v2 lo hi) (hp1:Bq M lo) (hp2:Bq M hi) (ht:Tens w):Calls Tryz.prog 79 #[v1,v2] w fun e w'=>e=.returned (.bool true)∧Ext w w':=by
 obtain⟨b1,A1,k1,ca1,B1,l1,cb1,b2,A2,k2,ca2,B2,l2,cb2,rfl,hn1,hn2⟩:=h.form;obtain⟨s3,C3,k3,ca3,D3,l3,cb3,s4,C4,k4,ca4,D4,l4,cb4,rfl⟩:=k.form2;obtain⟨hn3,hn4⟩:=ak.1 k;have H1:=ZZ hn1;have H2:=ZZ hn2;have H3:=ZZ hn3;have H4:=ZZ hn4;have HB1:=ZZ hp1;have HB2:=ZZ hp2;have HM:=ZZ hM;have HT:=ZZ ht;obtain⟨hw0,hra,hrb⟩:=setG2 w (.cells #[.bool b1,.slice A1 k1 ca1,.slice B1 l1 cb1,.bool b2,.slice A2 k2 ca2,.slice B2 l2 cb2] 68) (.cells #[.int .i64 s3,.slice C3 k3 ca3,.slice D3 l3 cb3,.int .i64 s4,.slice C4 k4 ca4,.slice D4 l4 cb4] 85);have hww:=ZZ hw0;have RA:=ZZ hra;have RB:=ZZ hrb;obtain⟨x0,x1,x2,x3,x4,x5,-⟩:=ah hra;obtain⟨y0,y1,y2,y3,y4,y5,-⟩:=ah hrb;clear h k hn1 hn2 hn3 hn4 hp1 hp2 hM ht hw0 hra hrb
 go_enter Tryz.func79,Tryz.ntmps79
 go_upto_region 1 with (fail)
 generalize World.alloc (World.alloc w (.cells #[.bool b1,.slice A1 k1 ca1,.slice B1 l1 cb1,.bool b2,.slice A2 k2 ca2,.slice B2 l2 cb2] _)) (.cells #[.int .i64 s3,.slice C3 k3 ca3,.slice D3 l3 cb3,.int .i64 s4,.slice C4 k4 ca4,.slice D4 l4 cb4] _)=W2 at *;go_wp2_with fail;refine(same_c M HM.out _ _ lo _ (H1.out.mono hww.out) (H3.out.mono hww.out) HB1.out (HT.out.mono hww.out)).mono ?_;rintro e w3 ⟨rfl,k3⟩;have K3:=ZZ (al hww.out k3);clear x0 x1 x2 x3 x4 x5 y0 y1 y2 y3 y4 y5;obtain⟨x0,x1,x2,x3,x4,x5,-⟩:=ah ((k3.block _ (lt_of_block RA.out)).trans RA.out);obtain⟨y0,y1,y2,y3,y4,y5,-⟩:=ah ((k3.block _ (lt_of_block RB.out)).trans RB.out);clear k3;go_wp2_with fail;refine(same_c M HM.out _ _ hi _ (H2.out.mono K3.out) (H4.out.mono K3.out) HB2.out (HT.out.mono K3.out)).mono ?_;rintro e w4 ⟨rfl,k4⟩;go_wp2_with fail;go_ret;exact⟨rfl,al K3.out k4⟩
end Go.Proofs.YtpgdefgdboijlaaGreatDoor
