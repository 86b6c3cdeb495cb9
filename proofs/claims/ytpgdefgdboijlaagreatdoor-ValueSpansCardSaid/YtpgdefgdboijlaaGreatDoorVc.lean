/- The laws' helper: two numbers are equal. Printed by gen_vc.py. What the rows' lists give: the tables; how a law's walk answers its row. -/
import Derived.Test.YtpgdefgdboijlaaGreatDoorUa
import Derived.Test.YtpgdefgdboijlaaGreatDoorCards
import Derived.Test.YtpgdefgdboijlaaGreatDoorTie
import Derived.WalkKit
import Derived.ProofKit
import Derived.OpenShut
import Derived.MakeChecks
import Derived.Lay
import Derived.Deep.DeepHandedRow
import Derived.Lib.LaidU8
set_option linter.unusedVariables false
set_option maxRecDepth 100000
set_option maxHeartbeats 16000000
namespace Go.Proofs.YtpgdefgdboijlaaGreatDoor
open Go.RowKit
def Tab (w:World):Prop:=Pfx w∧Tens w
theorem Tab.mono {w w':World} (h:Tab w) (k:Ext w w'):Tab w':=⟨h.1.mono k,h.2.mono k⟩
end Go.Proofs.YtpgdefgdboijlaaGreatDoor
namespace Go.Proofs.YtpgdefgdboijlaaGreatDoor
open Go.ChangeShapes Go.WideShapes Go.ChangeAt Go.RowKit
theorem tens_of {W:World} (h:Lib.VarReads Tryz.prog W "internal/strconv.uint64pow10" Rows.laid_internal_strconv_uint64pow10):Tens W:=by
 obtain⟨g,t,cs,fuel,p,hg,ht,hv,hd⟩:=h;have hg':Tryz.prog.globalNamed "internal/strconv.uint64pow10"=some 4:=by kernel_rfl
 obtain rfl:=Option.some.inj (hg'.symm.trans hg);have ht':(Tryz.prog.globals[(4:Nat)]?).map (·.type)=some 216:=by kernel_rfl
 obtain rfl:=Option.some.inj (ht'.symm.trans ht);have e:(Rows.laid_internal_strconv_uint64pow10:DataW Unit)=Lib.tabData .u64 Lib.pow10Tab:=by kernel_rfl
 rw [e] at hd;unfold Tens Lib.TabIs;rw [hv,←Lib.cells_of_tab Tryz.underlying216 Tryz.underlying135 (by kernel_rfl) (by kernel_rfl) hd]
theorem pfx_elem {W:World} {fuel:Nat} {cs:List Value} {l:List UInt8} {k:Int} {q:List MemPlace} (h:DataW.trod (fun _=>()) Tryz.prog W 0 (fun _=>true) false fuel 117 cs=some (.agg [.lit (.string l),.lit (.int .i64 k)],q)):cs[0]?=some (.string ⟨l.toArray⟩)∧cs[1]?=some (.int .i64 k):=by
 obtain⟨y0,y1,n,hx,hl,h0,h1⟩:=trod_struct2 Tryz.underlying117 h
 simp only [Prod.mk.injEq,DataW.agg.injEq,List.cons.injEq,and_true] at hx
 obtain⟨⟨e0,e1⟩,-⟩:=hx;have c0:Tryz.prog.cellsOf 9=1:=by kernel_rfl
 have c1:Tryz.prog.cellsOf 3=1:=by kernel_rfl
 obtain⟨s,hs,hy,-⟩:=DataW.trod_string Tryz.underlying9 h0;obtain⟨z,hz,hy1,-⟩:=DataW.trod_int Tryz.underlying3 h1;subst hy;subst hy1
 simp only [DataW.lit.injEq,Lit.string.injEq,Lit.int.injEq,true_and] at e0 e1
 subst e0;subst e1
 constructor
 ·have:=congrArg (·[0]?) hs
  simp only [c0] at this
  simpa [List.getElem?_take,List.getElem?_drop] using this
 ·have:=congrArg (·[0]?) hz
  simp only [c1] at this
  simpa [List.getElem?_take,List.getElem?_drop] using this
theorem pfx_of {W:World} (h:Lib.VarReads Tryz.prog W "pentode/value.prefixes" Rows.laid_pentode_value_prefixes):Pfx W:=by
 obtain⟨g,t,cs,fuel,p,hg,ht,hv,hd⟩:=h;have hg':Tryz.prog.globalNamed "pentode/value.prefixes"=some 0:=by kernel_rfl
 obtain rfl:=Option.some.inj (hg'.symm.trans hg);have ht':(Tryz.prog.globals[(0:Nat)]?).map (·.type)=some 118:=by kernel_rfl
 obtain rfl:=Option.some.inj (ht'.symm.trans ht);have ce:Tryz.prog.cellsOf 117=2:=by kernel_rfl
 have key:∀j,j<10→∀q,pfxs[j]?=some q→cs.toList[j*2]?=some (.string ⟨q.1.toArray⟩)∧cs.toList[j*2+1]?=some (.int .i64 q.2):=fun j hj q hq=>by
  obtain⟨f',d,q',h1,h2⟩:=Lib.array_elem Tryz.underlying118 hd j hj;rw [ce] at h2
  have hdq:d=.agg [.lit (.string q.1),.lit (.int .i64 q.2)]:=by
   have hm:(pfxs.map fun p=>(DataW.agg [.lit (.string p.1),.lit (.int .i64 p.2)]:DataW Unit))[j]?=some d:=h1;rw [List.getElem?_map,hq] at hm;exact(Option.some.inj hm).symm
  subst hdq;obtain⟨a,b⟩:=pfx_elem h2
  constructor
  ·simpa [List.getElem?_take,List.getElem?_drop] using a
  ·simpa [List.getElem?_take,List.getElem?_drop] using b
 intro i hi;rw [World.var?_cell hg' hv i];have e:cs[i]?=cs.toList[i]?:=by simp
 rw [e]
 rcases(show i=0∨i=1∨i=2∨i=3∨i=4∨i=5∨i=6∨i=7∨i=8∨i=9∨i=10∨i=11∨i=12∨i=13∨i=14∨i=15∨i=16∨i=17∨i=18∨i=19 by omega) with rfl|rfl|rfl|rfl|rfl|rfl|rfl|rfl|rfl|rfl|rfl|rfl|rfl|rfl|rfl|rfl|rfl|rfl|rfl|rfl
 ·exact(key 0 (by decide) _ rfl).1
 ·exact(key 0 (by decide) _ rfl).2
 ·exact(key 1 (by decide) _ rfl).1
 ·exact(key 1 (by decide) _ rfl).2
 ·exact(key 2 (by decide) _ rfl).1
 ·exact(key 2 (by decide) _ rfl).2
 ·exact(key 3 (by decide) _ rfl).1
 ·exact(key 3 (by decide) _ rfl).2
 ·exact(key 4 (by decide) _ rfl).1
 ·exact(key 4 (by decide) _ rfl).2
 ·exact(key 5 (by decide) _ rfl).1
 ·exact(key 5 (by decide) _ rfl).2
 ·exact(key 6 (by decide) _ rfl).1
 ·exact(key 6 (by decide) _ rfl).2
 ·exact(key 7 (by decide) _ rfl).1
 ·exact(key 7 (by decide) _ rfl).2
 ·exact(key 8 (by decide) _ rfl).1
 ·exact(key 8 (by decide) _ rfl).2
 ·exact(key 9 (by decide) _ rfl).1
 ·exact(key 9 (by decide) _ rfl).2
theorem tab_of {W:World} {l:List (String × DataW Unit)} (h:laidMetH Tryz.prog l W) (hp:(l.all fun x=>x.2.handleName?.isNone)=true) (h1:("internal/strconv.uint64pow10",Rows.laid_internal_strconv_uint64pow10) ∈ l) (h2:("pentode/value.prefixes",Rows.laid_pentode_value_prefixes) ∈ l):Tab W:=by
 rw [MakeChecks.laidMetH_plain _ _ _ hp] at h;exact⟨pfx_of (Lib.laidMet.reads h h2),tens_of (Lib.laidMet.reads h h1)⟩
theorem post_ext {H:Type} {enc:TypeId × Value→H} {f:Func} {s:ChangeSpec} {apart fresh handsOn again:Bool} {W W':World} {args:Array Value} {v:Value} {ds gs:List (DataW H)} (hW:DataW.Whole enc Tryz.prog f.params.toList s.vars apart W args.toList ds gs []) (hres:∀(b:Nat) (sp:Nat→Bool) (hd:Bool),DataW.TrodAll enc Tryz.prog W' b sp hd f.resultTypes.toList (v.resultList f.resultTypes.size) (s.fn H (ds ++ gs)).results []) (hargs:∀sp:Nat→Bool,DataW.TrodAll enc Tryz.prog W' 0 sp true f.params.toList args.toList (s.fn H (ds ++ gs)).args []) (hvars:∀sp:Nat→Bool,DataW.TrodVars enc Tryz.prog W' sp s.vars (s.fn H (ds ++ gs)).vars []) (hk:Ext W W') (hok:∀(j:Nat) (t:TypeId) (r:Value),f.resultTypes[j]?=some t→(v.resultList f.resultTypes.size)[j]?=some r→Value.okWide Tryz.prog W' .any 0 t r):s.post enc Tryz.prog f apart fresh handsOn again W args v W':=by
 refine⟨ds,gs,[],[],[],[],hW,hres _ _ _,hargs _,hvars _,World.keptBut_mono (fun p hp=>⟨hp,?_⟩) (hk.frame (· ∈ [])),fun _=>?_⟩
 ·cases hp
 ·refine⟨hok,_,_,([] ++ []) ++ [],⟨[] ++ [],[],trodAll_append (hargs _) (hres _ _ _),hvars _,rfl,?_,?_⟩,?_⟩
  ·intro b off hp
   simp at hp
  ·intro ha
   simp
  ·intro p hp _
   simp at hp
end Go.Proofs.YtpgdefgdboijlaaGreatDoor
