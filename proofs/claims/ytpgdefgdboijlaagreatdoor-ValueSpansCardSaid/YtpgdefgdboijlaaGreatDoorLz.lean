/- Regions walked by hand; the cells of two numbers in a row. -/
import Derived.Test.YtpgdefgdboijlaaGreatDoorR2
import Derived.Test.YtpgdefgdboijlaaGreatDoorNa
import Derived.Deep.DeepCutAuto
import Derived.Deep.RegionHeld3
set_option linter.unusedVariables false
set_option maxRecDepth 100000
set_option maxHeartbeats 16000000
namespace Go.Proofs.YtpgdefgdboijlaaGreatDoor
open Go.RowKit
section
variable {P:Program} {md:Region.Mode} {ops:Array Oper} {Q:Exit→Act→World→Prop} {S:World→Prop}
theorem take_w {i:Nat} (d:Tmp) {oi:Oper} {v:Value} {fuel:Nat} {listed:Array Bool} {a:Act} {w:World} (hi:ops[i]?=some oi) (hd:oi.dst=some d) (hs:Region.noSelect ops=true) (hf:Region.free md ops listed i=true) (hr:(Region.ready md ops listed).contains i=true) (hQ:∀c a w,Q (.panic c) (a.put (some d) v) w→Q (.panic c) a w) (hy:YieldsIf P ops S oi v a) (hS:S w) (h:wpAnyH P md ops Q S fuel (listed.setIfInBounds i true) (a.put (some d) v) w):wpAnyH P md ops Q S (fuel+1) listed a w:=by
 rw [←hd] at hQ h;exact wpAnyH_take hi hs hf hr hQ hy hS h
theorem call_w {fuel:Nat} {listed:Array Bool} {a:Act} {w:World} {i:Nat} (d:Tmp) {o:Oper} (ho:ops[i]?=some o) (hd:o.dst=some d) (hr:Region.ready md ops listed=[i]) (h:∀K':Act→World→Prop,Shut (∀a w,S w→(S w→wpAnyH P md ops Q S fuel (listed.setIfInBounds i true) a w)→K' a w)→if Region.wanted o (yielded ops a.tmps)=true then Oper.wp P o a w K' Q else K' (a.put (some d) undef) w):wpAnyH P md ops Q S (fuel+1) listed a w:=by
 rw [←hd] at h;exact wpAnyH_ready hr (by simp) (AllReadyH.cons ho h AllReadyH.nil)
end
theorem setupM (w:World) (x0 x1 x2 y0 y1 y2:Value):(∀W,Ext ((w.alloc (.cells #[x0,x1,x2] 25)).alloc (.cells #[y0,y1,y2] 31)) W→W.cell? ⟨w.heap.size,0,none⟩=some x0∧W.cell? ⟨w.heap.size,1,none⟩=some x1∧W.cell? ⟨w.heap.size,2,none⟩=some x2∧W.cell? ⟨w.heap.size+1,0,none⟩=some y0∧W.cell? ⟨w.heap.size+1,1,none⟩=some y1∧W.cell? ⟨w.heap.size+1,2,none⟩=some y2)∧Ext w ((w.alloc (.cells #[x0,x1,x2] 25)).alloc (.cells #[y0,y1,y2] 31)):=by
 have z0:(w.alloc (.cells #[x0,x1,x2] 25)).heap.size=w.heap.size+1:=by simp
 have e0:Ext w (w.alloc (.cells #[x0,x1,x2] 25)):=ab _ _;generalize hw0:w.alloc (.cells #[x0,x1,x2] 25)=w0 at *;have e1:Ext w0 (w0.alloc (.cells #[y0,y1,y2] 31)):=ab _ _;refine⟨fun W h=>?_,al e0 e1⟩;have r0:=row3 (hw0 ▸ (al e1 h):Ext (w.alloc (.cells #[x0,x1,x2] 25)) W);have r1:=rowR h;rw [z0] at r1;obtain⟨a,b,c,-⟩:=aj r0;obtain⟨a',b',c',-⟩:=aj r1;exact⟨a,b,c,a',b',c'⟩
end Go.Proofs.YtpgdefgdboijlaaGreatDoor
