/- The reference beside the program: one text for equal numbers; regions walked by hand. Printed by gen_lp.py. -/
import Derived.Test.YtpgdefgdboijlaaGreatDoorLz
import Derived.Test.YtpgdefgdboijlaaGreatDoorR2
import Derived.Test.YtpgdefgdboijlaaGreatDoorVd
import Derived.Deep.DeepCutAuto
import Derived.Deep.RegionHeld3
set_option linter.unusedVariables false
set_option maxRecDepth 100000
set_option maxHeartbeats 16000000
namespace Go.Proofs.YtpgdefgdboijlaaGreatDoor
open Go.RowKit
theorem same_c (M:Nat) (hM:M≤1099511627776) (vx vy:Value) (x:Rat) (w:World) (hx:Nm w vx x) (hy:Nr w vy x) (bx:Bq M x) (ht:Tens w):Calls Tryz.prog 18 #[vx,vy] w fun e w'=>e=.returned (.bool true)∧Ext w w':=by
 obtain⟨b1,A,k,ca,B,l,cb,rfl⟩:=hx.form2;obtain⟨s,C,m,cc,D,n,cd,rfl,-,-,-⟩:=hy.form;have HM:=ZZ hM;have BX:=ZZ bx;have HT:=ZZ ht;have Hx:=ZZ hx;have Hy:=ZZ hy;obtain⟨hS,hww⟩:=setupM w (.bool b1) (.slice A k ca) (.slice B l cb) (.int .i64 s) (.slice C m cc) (.slice D n cd);have HS:=ZZ hS;have HWW:=ZZ hww;obtain⟨tt,htt⟩:∃l,txt x=l:=⟨_,rfl⟩;have HTT:=ZZ htt
 have hlit:∀(vx:Value) (w:World),Nr w vx x→Calls Tryz.prog 114 #[vx] w fun e w'=>e=.returned (.string ⟨tt.toArray⟩)∧Ext w w':=fun vx w h=>by
  rw [←htt];exact text_r M hM vx x w h bx
 have HLIT:=ZZ hlit;clear hM bx ht hx hy hS hww htt hlit
 go_enter Tryz.func18,Tryz.ntmps18
 go_wp2_with fail;generalize World.alloc (World.alloc w (.cells #[.bool b1,.slice A k ca,.slice B l cb] _)) (.cells #[.int .i64 s,.slice C m cc,.slice D n cd] _)=W2 at *
 generalize w.heap.size=g0 at *;have hS0:=HS.out _ (ad W2);have hx1:=ZZ (ac W2)
 go_region_held3 (fun W=>W.cell? ⟨g0,0,none⟩=some (.bool b1)∧W.cell? ⟨g0,1,none⟩=some (.slice A k ca)∧W.cell? ⟨g0,2,none⟩=some (.slice B l cb)∧W.cell? ⟨g0+1,0,none⟩=some (.int .i64 s)∧W.cell? ⟨g0+1,1,none⟩=some (.slice C m cc)∧W.cell? ⟨g0+1,2,none⟩=some (.slice D n cd))
  (first
   | exact HS.out _ hx3.out
   | exact HS.out _ hx2.out
   | exact HS.out _ hx1.out)
  (first
   |(have _q:=hx2
     go_at_call 114
     refine(HLIT.out _ _ (Hy.out.mono (al HWW.out hx2.out))).mono ?_;clear _q;rintro e w2 ⟨rfl,k3⟩;have hx3:=ZZ (al hx2.out k3);clear k3)
   |(have _q:=hx1
     go_at_call 42
     refine(text_lit M HM.out _ x tt HTT.out _ (Hx.out.mono (al HWW.out hx1.out)) BX.out (HT.out.mono (al HWW.out hx1.out))).mono ?_;clear _q;rintro e w1 ⟨rfl,k2⟩;have hx2:=ZZ (al hx1.out k2);clear k2))
 all_goals
  go_wp2_with fail;go_ret
  exact⟨by simp,al HWW.out hx3.out⟩
end Go.Proofs.YtpgdefgdboijlaaGreatDoor
