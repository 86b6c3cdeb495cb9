/- Arguments that are slices of strings, opened and shut; the answer of a law's row with places. What the rows' lists give at the seat of the Poly laws: the table of powers of ten. Sturm's theorem over the rationals: changes of sign between two numbers. A polynomial with small values at many whole numbers has small numbers; so a factor has. How great the numbers of square-free parts are, on both ways to them. How great the numbers are that PolyDivides looks at. -/
import Derived.Test.YtaaoleakkaloeaaGreatDoorGYt
import Derived.Deep.Strs
import Derived.WalkKit
import Derived.ProofKit
import Derived.OpenShut
import Derived.RowKit
import Derived.Test.YtaaoleakkaloeaaGreatDoorGVx
import Derived.Test.YtaaoleakkaloeaaGreatDoorCards
import Derived.Test.YtaaoleakkaloeaaGreatDoorTie
import Derived.MakeChecks
import Derived.Lay
import Derived.Deep.DeepHandedRow
import Derived.Lib.LaidU8
import Derived.Test.YtaaoleakkaloeaaGreatDoorGJb
import Derived.Test.YtaaoleakkaloeaaGreatDoorGHj
import Derived.Test.YtaaoleakkaloeaaGreatDoorGYb
set_option linter.unusedVariables false
set_option maxRecDepth 100000
set_option maxHeartbeats 64000000
namespace Go.Proofs.YtaaoleakkaloeaaGreatDoor
open Go Go.ChangeShapes Go.WideShapes Go.ChangeAt Go.RowKit Go.Deep
theorem ext_frozenP {W W':World} (h:Ext W W') {b:Nat} (hb:b<W.heap.size) (o:Nat) (s:_):W'.frozen? ⟨b,o,s⟩=W.frozen? ⟨b,o,s⟩:=by
 have h1:=h.block b hb;unfold World.frozen?
 simp only [h1]
theorem post_extP {H:Type} {enc:TypeId × Value→H} {f:Func} {s:ChangeSpec} {apart fresh handsOn again:Bool} {W W':World} {args:Array Value} {v:Value} {ds gs:List (DataW H)} {pa:List MemPlace} (hW:DataW.Whole enc Tryz.prog f.params.toList s.vars apart W args.toList ds gs pa) (hres:∀(b:Nat) (sp:Nat→Bool) (hd:Bool),DataW.TrodAll enc Tryz.prog W' b sp hd f.resultTypes.toList (v.resultList f.resultTypes.size) (s.fn H (ds ++ gs)).results []) (hargs:∀sp:Nat→Bool,(∀p ∈ pa,sp p.block=true)→DataW.TrodAll enc Tryz.prog W' 0 sp true f.params.toList args.toList (s.fn H (ds ++ gs)).args pa) (hvars:∀sp:Nat→Bool,DataW.TrodVars enc Tryz.prog W' sp s.vars (s.fn H (ds ++ gs)).vars []) (hk:Ext W W') (hok:∀(j:Nat) (t:TypeId) (r:Value),f.resultTypes[j]?=some t→(v.resultList f.resultTypes.size)[j]?=some r→Value.okWide Tryz.prog W' .any 0 t r):s.post enc Tryz.prog f apart fresh handsOn again W args v W':=by
 have hold:∀p ∈ pa,(fun b=>decide (b<W.heap.size)) p.block=true:=fun p hp=>by simpa using hW.lt p hp
 have hlt:=fun p hp=>hW.lt p hp;refine⟨ds,gs,pa,[],pa,[],hW,hres _ _ _,hargs _ hold,hvars _,World.keptBut_mono (fun p hp=>⟨hp,Or.inr (Or.inl hp)⟩) (hk.frame (· ∈ pa)),fun _=>?_⟩;obtain⟨_,_,_,_,_,hz,hn⟩:=hW;refine⟨hok,_,_,([] ++ pa) ++ [],⟨[] ++ pa,[],trodAll_append (hargs _ (fun _ _=>rfl)) (hres _ _ _),hvars _,rfl,?_,?_⟩,?_⟩
 ·intro b off hp
  have hp':MemPlace.cell b off ∈ pa:=by simpa using hp
  rw [ext_frozenP hk (b:=b) (hlt _ hp')];exact hz b off hp'
 ·intro ha
  simpa using hn ha
 ·intro p hp _
  simpa using hp
theorem open_stl {H:Type} {enc:TypeId × Value→H} {W:World} {b0:Nat} {T E:TypeId} {v:Value} {d:DataW H} {ps:List MemPlace} (ht:Tryz.prog.underlying T=some (.slice E)) (he:Tryz.prog.underlying E=some .string) (hc:Tryz.prog.cellsOf E=1) (hv:Value.okWide Tryz.prog W .any b0 T v) (h:DataW.Trod enc Tryz.prog W 0 (fun _=>true) true T v d ps):∃ls,Stl W v ls∧∀W',Ext W W'→∀sp:Nat→Bool,(∀p ∈ ps,sp p.block=true)→DataW.Trod enc Tryz.prog W' 0 sp true T v d ps:=by
 obtain⟨a0,len,cap,rfl⟩:=okWide_slice ht hv;obtain⟨fuel,hf⟩:=h
 rcases open_strs ht he hc hf with ⟨hcs,hx⟩|⟨a,len',cap',m,Sx,hcs,_,hl,hm,hmm,hx,hcell⟩
 ·simp [Value.cells] at hcs
  obtain⟨rfl,rfl,rfl⟩:=hcs
  simp only [Prod.mk.injEq] at hx
  obtain⟨rfl,rfl⟩:=hx;exact⟨[],.inl ⟨⟨_,_,rfl⟩,rfl⟩,fun W' _ sp _=>shut_slice_nil ht⟩
 simp [Value.cells] at hcs
 obtain⟨rfl,rfl,rfl⟩:=hcs
 simp only [Prod.mk.injEq] at hx
 obtain⟨rfl,rfl⟩:=hx
 simp only [if_true] at hmm
 subst hmm;obtain⟨b,off,spot⟩:=a
 by_cases hc0:m=0
 ·subst hc0
  have hlen0:len=0:=by omega
  subst hlen0;refine⟨[],.inl ⟨⟨_,_,rfl⟩,rfl⟩,fun W' _ sp _=>?_⟩
  show ∃n,DataW.trod enc Tryz.prog W' 0 sp true n T [.slice (some ⟨b,off,spot⟩) 0 0]=some (.slice [] [],[])
  cases hsp:sp b
  ·simpa [MemPlace.row] using shut_slice_cells (enc:=enc) (w:=W') (base:=0) (spare:=sp) (held:=true) (a:=⟨b,off,spot⟩) (len:=0) (cap:=0) ht (Nat.zero_le _) (Nat.le_refl _) (Nat.zero_le _) hsp (fun _=>.nil) (fun _=>[]) (fun i hi=>absurd hi (Nat.not_lt_zero _))
  ·simpa [MemPlace.row] using shut_slice_whole_cells (enc:=enc) (w:=W') (base:=0) (spare:=sp) (held:=true) (a:=⟨b,off,spot⟩) (len:=0) (cap:=0) ht (Nat.zero_le _) (Nat.le_refl _) (Nat.zero_le _) hsp (fun _=>.nil) (fun _=>[]) (fun i hi=>absurd hi (Nat.not_lt_zero _))
 have hspot:spot=none:=by simpa [Addr.add] using World.cell?_spot (hcell 0 (by omega)).1
 subst hspot;have hcell':∀j,j<m→W.cell? ⟨b,off+j,none⟩=some (.string (Sx j)):=fun j hj=>by rw [←add_plain];exact(hcell j hj).1
 refine⟨(List.range len).map fun i=>(Sx i).data.toList,.inr ⟨b,off,m,by simp,by simp;omega,fun s hs=>?_,fun i s hs=>?_⟩,fun W' k sp hsp=>?_⟩
 ·obtain⟨i,hi,rfl⟩:=List.mem_map.1 hs
  have:=(hcell i (by have:=List.mem_range.1 hi;omega)).2
  rw [Array.length_toList];exact this
 ·rw [List.getElem?_map] at hs
  have hi:i<len:=by
   rcases Nat.lt_or_ge i len with h|h
   ·exact h
   ·rw [List.getElem?_eq_none (by simpa using h)] at hs;cases hs
  rw [List.getElem?_range hi] at hs;obtain rfl:=Option.some.inj hs;exact hcell' i (by omega)
 ·exact shut_strs_whole (enc:=enc) (w:=W') (base:=0) (spare:=sp) (held:=true) ht he hc (Nat.zero_le _) hl hm (hsp (.cell b (off+0)) (MemPlace.mem_row.2 ⟨0,by omega,rfl⟩)) Sx (fun i hi=>ao k (hcell' i hi)) (fun i hi=>(hcell i hi).2)
end Go.Proofs.YtaaoleakkaloeaaGreatDoor
set_option linter.unusedVariables false
set_option maxRecDepth 100000
set_option maxHeartbeats 64000000
namespace Go.Proofs.YtaaoleakkaloeaaGreatDoor
open Go.ChangeShapes Go.WideShapes Go.ChangeAt Go.RowKit
theorem tensP {W:World} (h:Lib.VarReads Tryz.prog W "internal/strconv.uint64pow10" Rows.laid_internal_strconv_uint64pow10):Tens W:=by
 obtain⟨g,t,cs,fuel,p,hg,ht,hv,hd⟩:=h;have hg':Tryz.prog.globalNamed "internal/strconv.uint64pow10"=some 3:=by kernel_rfl
 obtain rfl:=Option.some.inj (hg'.symm.trans hg);have ht':(Tryz.prog.globals[(3:Nat)]?).map (·.type)=some 190:=by kernel_rfl
 obtain rfl:=Option.some.inj (ht'.symm.trans ht);have e:(Rows.laid_internal_strconv_uint64pow10:DataW Unit)=Lib.tabData .u64 Lib.pow10Tab:=by kernel_rfl
 rw [e] at hd;unfold Tens Lib.TabIs;rw [hv,←Lib.cells_of_tab Tryz.underlying190 Tryz.underlying98 (by kernel_rfl) (by kernel_rfl) hd]
theorem tensP_of {W:World} {l:List (String × DataW Unit)} (h:laidMetH Tryz.prog l W) (hp:(l.all fun x=>x.2.handleName?.isNone)=true) (h1:("internal/strconv.uint64pow10",Rows.laid_internal_strconv_uint64pow10) ∈ l):Tens W:=by
 rw [MakeChecks.laidMetH_plain _ _ _ hp] at h;exact tensP (Lib.laidMet.reads h h1)
end Go.Proofs.YtaaoleakkaloeaaGreatDoor
set_option linter.unusedVariables false
set_option maxRecDepth 100000
set_option maxHeartbeats 64000000
namespace Go.Proofs.YtaaoleakkaloeaaGreatDoor
set_option linter.unusedSimpArgs false
def Up (s:Rat) (p:List Rat) (a b:Rat):Prop:=∀x y,a≤x→x<y→y≤b→s*evR p x<s*evR p y
def Pie (p:List Rat) (c:List (List Rat)) (a b:Rat):Prop:=
 (∃s,Pm s∧Fx s p a b∧∃N:Int,∀x,a≤x→x≤b→vF c x=N) ∨
 (∃s,Pm s∧Up s p a b∧∃N:Int,∀x,a≤x→x≤b→vF c x=chg (atF x p) (si s)+N)
theorem piece {B:Rat} (hB:0≤B) {p q:List Rat} {l:List (List Rat)} (hc:Chn (p :: q :: l)) {μ:Rat} (hμ:0<μ) (hq:∀x,evR q x=μ*evR (derivF p) x):∃d,0<d∧∀a b,Ab B a→Ab B b→a≤b→b - a≤d→Pie p (p :: q :: l) a b:=by
 obtain⟨κ,κ0,hη⟩:=hc.loc hB _ _ rfl;obtain⟨Kq,kq0,kq⟩:=syn_ab hB q;obtain⟨K2,k20,k2⟩:=syn2_ab hB p;obtain⟨d1,e,d10,e0,-,h1⟩:=hη 1 (by decide)
 obtain⟨d2,d20,d2a,d2b⟩:=small_ex (e:=κ) (K:=2*Kq+2*(μ*K2)) (n:=d1) κ0 (by
  have:=Rat.mul_nonneg (Rat.le_of_lt hμ) k20
  grind) d10
 refine⟨d2,d20,fun a b ha hb hab hba=>?_⟩;obtain⟨t1,t2⟩:=h1 a b ha hb hab (Rat.le_trans hba d2b);obtain⟨σ,hσ,hσp⟩:=pm_of (evR p a)
 rcases lt_or_le' (σ*evR p a) e with h|h
 ·obtain⟨q',m,s,hl,hs,hsq,hg⟩:=t2 (by rcases hσ with rfl|rfl <;> grind) (by rcases hσ with rfl|rfl <;> grind)
  injection hl with hl1 hl2
  subst hl1 hl2;obtain⟨N,hN⟩:=hg.head (p:=p);refine .inr ⟨s,hs,fun x y hax hxy hyb=>?_,N,hN⟩
  have hx:Ab B x:=by
   have q1:=ha.1;have q2:=hb.2
   constructor <;> grind
  have hy:Ab B y:=by
   have q1:=ha.1;have q2:=hb.2
   constructor <;> grind
  have g1:=ev_syn a x q;have g2:=(show Ab d2 (x - a) by constructor <;> grind).mul (kq a x ha hx);have g3:=(show Ab d2 (y - x) by constructor <;> grind).mul (k2 x y hx hy);have g4:=taylor x y p;have g5:=hq x;have g6:=(g2.pm hs);have g7:=(g3.pm hs);have g8:=(show Ab μ μ from ⟨by grind,Rat.le_refl⟩).mul g7
  have pos:0<μ*(s*(evR (derivF p) x+(y - x)*evR (syn x (syn x p)) y)):=by
   have b1:=g6.1;have b2:=g8.1
   have e1:μ*(s*(evR (derivF p) x+(y - x)*evR (syn x (syn x p)) y))=s*evR q a+s*((x - a)*evR (syn a q) x)+μ*(s*((y - x)*evR (syn x (syn x p)) y)):=by
    rw [g1] at g5
    grind
   rw [e1]
   grind
  have pos2:0<s*(evR (derivF p) x+(y - x)*evR (syn x (syn x p)) y):=by
   rcases lt_or_le' 0 (s*(evR (derivF p) x+(y - x)*evR (syn x (syn x p)) y)) with h9|h9
   ·exact h9
   ·exfalso
    have:=Rat.mul_nonneg (Rat.le_of_lt hμ) (show 0≤-(s*(evR (derivF p) x+(y - x)*evR (syn x (syn x p)) y)) by grind)
    grind
  have pos3:=Rat.mul_pos (show 0<y - x by grind) pos2;rw [g4]
  grind
 ·obtain⟨N,hN⟩:=(t1 σ hσ h).same
  refine .inl ⟨σ,hσ,?_,N,hN⟩
  have:=t1 σ hσ h
  cases this with
  | next _ hf _=>exact hf
  | skip _ hf _=>exact hf
theorem chg_le {u s:Int}:0≤chg u s∧chg u s≤1:=by
 unfold chg
 split <;> omega
theorem chg_up {x y s:Rat} {p:List Rat} (hs:Pm s) (h:s*evR p x≤s*evR p y):chg (atF y p) (si s)≤chg (atF x p) (si s):=by
 have e1:chg 0 1=0:=rfl;have e2:chg 1 1=0:=rfl;have e3:chg (-1) 1=1:=rfl;have e4:chg 0 (-1)=0:=rfl;have e5:chg 1 (-1)=1:=rfl;have e6:chg (-1) (-1)=0:=rfl
 rcases hs with rfl|rfl
 ·rw [si_one]
  rcases at_cases x p with ⟨a1,b1⟩|⟨a1,b1⟩|⟨a1,b1⟩ <;> rcases at_cases y p with ⟨a2,b2⟩|⟨a2,b2⟩|⟨a2,b2⟩ <;> rw [a1,a2] <;> first|omega|(exfalso;grind)
 ·rw [si_neg]
  rcases at_cases x p with ⟨a1,b1⟩|⟨a1,b1⟩|⟨a1,b1⟩ <;> rcases at_cases y p with ⟨a2,b2⟩|⟨a2,b2⟩|⟨a2,b2⟩ <;> rw [a1,a2] <;> first|omega|(exfalso;grind)
theorem by_pieces {d:Rat} (hd:0<d) (R:Rat→Rat→Prop) (refl:∀x,R x x) (trans:∀x y z,x≤y→y≤z→R x y→R y z→R x z) {lo hi:Rat} (short:∀a b,lo≤a→a≤b→b≤hi→b - a≤d→R a b):∀(n:Nat) (a b:Rat),lo≤a→a≤b→b≤hi→b - a≤(n:Rat)*d→R a b
 | 0,a,b,h1,h2,h3,h4=>by
  have:a=b:=by
   have e:((0:Nat):Rat)=0:=rfl;rw [e] at h4
   grind
  rw [this];exact refl b
 | n+1,a,b,h1,h2,h3,h4=>by
  rcases lt_or_le' d (b - a) with h|h
  ·refine trans a (a+d) b (by grind) (by grind) (short a (a+d) h1 (by grind) (by grind) (by grind)) (by_pieces hd R refl trans short n (a+d) b (by grind) (by grind) h3 ?_)
   rw [Rat.natCast_add] at h4;have e:((1:Nat):Rat)=1:=rfl;rw [e] at h4
   grind
  ·exact short a b h1 h2 h3 h
theorem arch {d:Rat} (hd:0<d) (x:Rat):∃n:Nat,x≤(n:Rat)*d:=by
 have h3:=Rat.mul_inv_cancel d (by grind)
 obtain⟨n,hn⟩:∃n:Nat,x*d⁻¹≤(n:Rat):=by
  refine⟨(x*d⁻¹).ceil.toNat,?_⟩;have h1:=Rat.le_ceil (x:=x*d⁻¹);have h2:((x*d⁻¹).ceil:Rat)≤(((x*d⁻¹).ceil.toNat:Int):Rat):=Rat.intCast_le_intCast.2 (by omega);rw [Rat.intCast_natCast] at h2;exact Rat.le_trans h1 h2
 refine⟨n,?_⟩;have h4:=Rat.mul_nonneg (show 0≤(n:Rat) - x*d⁻¹ by grind) (Rat.le_of_lt hd);have h5:((n:Rat) - x*d⁻¹)*d=(n:Rat)*d - x*(d*d⁻¹):=by grind
 rw [h5,h3] at h4;generalize (n:Rat)=m at *;clear h3 hn h5
 grind
theorem global {p q:List Rat} {l:List (List Rat)} (hc:Chn (p :: q :: l)) {μ:Rat} (hμ:0<μ) (hq:∀x,evR q x=μ*evR (derivF p) x) (R:Rat→Rat→Prop) (refl:∀x,R x x) (trans:∀x y z,x≤y→y≤z→R x y→R y z→R x z) {lo hi:Rat} (hlh:lo≤hi) (short:∀a b,lo≤a→a≤b→b≤hi→Pie p (p :: q :: l) a b→R a b):R lo hi:=by
 obtain⟨K1,k1,a1⟩:=ab_ex lo;obtain⟨K2,k2,a2⟩:=ab_ex hi;obtain⟨B,b1,b2⟩:=ab_max (K:=K1) (L:=K2);obtain⟨d,d0,h⟩:=piece (B:=B) (by grind) hc hμ hq;obtain⟨n,hn⟩:=arch d0 (hi - lo);have q1:=a1.1;have q2:=a2.2;exact by_pieces d0 R refl trans (fun a b g1 g2 g3 g4=>short a b g1 g2 g3 (h a b ⟨by grind,by grind⟩ ⟨by grind,by grind⟩ g2 g4)) n lo hi Rat.le_refl hlh Rat.le_refl hn
theorem v_down {p q:List Rat} {l:List (List Rat)} (hc:Chn (p :: q :: l)) {μ:Rat} (hμ:0<μ) (hq:∀x,evR q x=μ*evR (derivF p) x) {x y:Rat} (h:x≤y):vF (p :: q :: l) y≤vF (p :: q :: l) x:=by
 refine global hc hμ hq (fun a b=>vF (p :: q :: l) b≤vF (p :: q :: l) a) (fun x=>Int.le_refl _) (fun x y z _ _ h1 h2=>Int.le_trans h2 h1) h fun a b h1 h2 h3 hp=>?_
 rcases hp with ⟨s,hs,hf,N,hN⟩|⟨s,hs,hu,N,hN⟩
 ·rw [hN a Rat.le_refl h2,hN b h2 Rat.le_refl]
  exact Int.le_refl _
 ·rw [hN a Rat.le_refl h2,hN b h2 Rat.le_refl]
  have:s*evR p a≤s*evR p b:=by
   rcases lt_or_le' a b with g|g
   ·exact Rat.le_of_lt (hu a b Rat.le_refl g Rat.le_refl)
   ·have:a=b:=by grind
    rw [this];exact Rat.le_refl
  have:=chg_up hs this
  omega
theorem v_fix {p q:List Rat} {l:List (List Rat)} (hc:Chn (p :: q :: l)) {μ:Rat} (hμ:0<μ) (hq:∀x,evR q x=μ*evR (derivF p) x) {x y s:Rat} (h:x≤y) (hs:Pm s) (hf:Fx s p x y):vF (p :: q :: l) y=vF (p :: q :: l) x:=by
 refine global hc hμ hq (fun a b=>vF (p :: q :: l) b=vF (p :: q :: l) a) (fun x=>rfl) (fun x y z _ _ h1 h2=>h2.trans h1) h fun a b h1 h2 h3 hp=>?_
 rcases hp with ⟨_,_,_,N,hN⟩|⟨t,ht,hu,N,hN⟩
 ·rw [hN a Rat.le_refl h2,hN b h2 Rat.le_refl]
 ·rw [hN a Rat.le_refl h2,hN b h2 Rat.le_refl,at_si hs (hf a h1 (Rat.le_trans h2 h3)),at_si hs (hf b (Rat.le_trans h1 h2) h3)]
theorem v_up {p q:List Rat} {l:List (List Rat)} (hc:Chn (p :: q :: l)) {μ:Rat} (hμ:0<μ) (hq:∀x,evR q x=μ*evR (derivF p) x) {x y s:Rat} (h:x≤y) (hs:Pm s) (hf:Up s p x y):vF (p :: q :: l) x - vF (p :: q :: l) y=chg (atF x p) (si s) - chg (atF y p) (si s):=by
 refine global hc hμ hq (fun a b=>vF (p :: q :: l) a - vF (p :: q :: l) b=chg (atF a p) (si s) - chg (atF b p) (si s)) (fun x=>by omega) (fun x y z _ _ h1 h2=>by omega) h fun a b h1 h2 h3 hp=>?_
 rcases hp with ⟨t,ht,hg,N,hN⟩|⟨t,ht,hu,N,hN⟩
 ·rw [hN a Rat.le_refl h2,hN b h2 Rat.le_refl,at_si ht (hg a Rat.le_refl h2),at_si ht (hg b h2 Rat.le_refl)];omega
 ·rw [hN a Rat.le_refl h2,hN b h2 Rat.le_refl]
  rcases lt_or_le' a b with g|g
  ·have f1:=hu a b Rat.le_refl g Rat.le_refl
   have f2:=hf a b h1 g h3
   have:t=s:=by
    rcases ht with rfl|rfl <;> rcases hs with rfl|rfl <;> first|rfl|(exfalso;grind)
   rw [this];omega
  ·have:a=b:=by grind
   rw [this];omega
end Go.Proofs.YtaaoleakkaloeaaGreatDoor
set_option linter.unusedVariables false
set_option maxRecDepth 100000
set_option maxHeartbeats 64000000
namespace Go.Proofs.YtaaoleakkaloeaaGreatDoor
set_option linter.unusedSimpArgs false
def evI:List Int→Int→Int
 | [],_=>0
 | a :: t,x=>evI t x*x+a
def synI (s:Int):List Int→List Int
 | []=>[]
 | [_]=>[]
 | _ :: b :: t=>evI (b :: t) s :: synI s (b :: t)
theorem synI_len (s:Int):∀p:List Int,(synI s p).length=p.length - 1
 | []=>rfl
 | [_]=>rfl
 | _ :: b :: t=>by
  show (synI s (b :: t)).length+1=_
  rw [synI_len s (b :: t)];simp
theorem evI_syn (s x:Int):∀p:List Int,evI p x=evI p s+(x - s)*evI (synI s p) x
 | []=>by show (0:Int)=0+(x - s)*0;grind
 | [a]=>by show (0*x+a:Int)=(0*s+a)+(x - s)*0;grind
 | a :: b :: t=>by
  have h:=evI_syn s x (b :: t)
  show evI (b :: t) x*x+a=(evI (b :: t) s*s+a)+(x - s)*(evI (synI s (b :: t)) x*x+evI (b :: t) s)
  generalize evI (b :: t) x=u at *;generalize evI (b :: t) s=v at *;generalize evI (synI s (b :: t)) x=z at *
  grind
theorem ci_syn0 (s a:Int) (t:List Int):ci (a :: t) 0=evI (a :: t) s - s*ci (synI s (a :: t)) 0:=by
 cases t with
 | nil=>show a=0*s+a - s*0;grind
 | cons b t=>show a=evI (b :: t) s*s+a - s*evI (b :: t) s;grind
theorem ci_syn (s:Int):∀(p:List Int) (i:Nat),ci p (i+1)=ci (synI s p) i - s*ci (synI s p) (i+1)
 | [],i=>by show (0:Int)=0 - s*0;grind
 | [a],i=>by show (0:Int)=0 - s*0;grind
 | a :: b :: t,0=>by
  show b=evI (b :: t) s - s*ci (synI s (b :: t)) 0
  have:=ci_syn0 s b t
  exact this
 | a :: b :: t,i+1=>ci_syn s (b :: t) i
theorem sub_abs {a b:Int} {A B:Nat} (ha:a.natAbs≤A) (hb:b.natAbs≤B):(a - b).natAbs≤A+B:=by
 have:=Int.natAbs_sub_le a b
 omega
theorem interp (X:Nat):∀(pts:List Nat) (p:List Int) (V:Nat),p.length≤pts.length→pts.Nodup→(∀x ∈ pts,x≤X)→(∀x ∈ pts,(evI p (x:Int)).natAbs≤V)→∀i,(ci p i).natAbs≤V*(2*X+3) ^ pts.length
 | [],p,V,hl,_,_,_,i=>by
  have:p=[]:=List.length_eq_zero_iff.1 (Nat.le_zero.1 hl)
  subst this;exact Nat.zero_le _
 | s :: pts,p,V,hl,hd,hX,hV,i=>by
  have hd':=List.nodup_cons.1 hd;have hs:=hV s (List.mem_cons_self ..);have hsX:=hX s (List.mem_cons_self ..)
  have ih:=interp X pts (synI (s:Int) p) (2*V) (by rw [synI_len];simp at hl;omega) hd'.2 (fun x hx=>hX x (List.mem_cons_of_mem _ hx)) (fun x hx=>by
   have h1:=hV x (List.mem_cons_of_mem _ hx);have h2:=evI_syn (s:Int) (x:Int) p;have h3:((x:Int) - (s:Int))*evI (synI (s:Int) p) (x:Int)=evI p (x:Int) - evI p (s:Int):=by omega
   have h4:=congrArg Int.natAbs h3;rw [Int.natAbs_mul] at h4;have h5:=sub_abs h1 hs
   have h6:0<((x:Int) - (s:Int)).natAbs:=by
    have:x≠s:=fun e=>hd'.1 (e ▸ hx)
    omega
   have h7:=Nat.le_mul_of_pos_left (evI (synI (s:Int) p) (x:Int)).natAbs h6
   omega)
  generalize hK:(2*X+3) ^ pts.length=K at ih;have hK1:1≤K:=by rw [←hK];exact Nat.pow_pos (by omega)
  have hVK:V≤V*K:=Nat.le_mul_of_pos_right V hK1
  have e:V*(2*X+3) ^ (s :: pts).length=2*(X*(V*K))+3*(V*K):=by
   rw [List.length_cons,Nat.pow_succ,hK];grind
  have hsm:∀z:Int,z.natAbs≤2*V*K→((s:Int)*z).natAbs≤2*(X*(V*K)):=fun z hz=>by
   rw [Int.natAbs_mul,Int.natAbs_natCast];have h1:=Nat.mul_le_mul hsX hz;have h2:X*(2*V*K)=2*(X*(V*K)):=by grind
   omega
  have e2:2*V*K=2*(V*K):=Nat.mul_assoc ..;rw [e]
  cases i with
  | zero=>
   cases p with
   | nil=>exact Nat.zero_le _
   | cons a t=>
    rw [ci_syn0 (s:Int) a t]
    have:=sub_abs hs (hsm _ (ih 0))
    omega
  | succ i=>
   rw [ci_syn (s:Int) p i]
   have:=sub_abs (ih i) (hsm _ (ih (i+1)))
   omega
theorem evI_le (A X x:Nat) (hx:x≤X):∀p:List Int,(∀i,(ci p i).natAbs≤A)→(evI p (x:Int)).natAbs≤A*(X+1) ^ p.length
 | [],_=>Nat.zero_le _
 | a :: t,h=>by
  have ih:=evI_le A X x hx t fun i=>h (i+1);have h0:a.natAbs≤A:=h 0
  show (evI t (x:Int)*(x:Int)+a).natAbs≤A*(X+1) ^ (t.length+1)
  have h1:=Int.natAbs_add_le (evI t (x:Int)*(x:Int)) a;rw [Int.natAbs_mul,Int.natAbs_natCast] at h1;generalize hK:(X+1) ^ t.length=K at ih;have hK1:1≤K:=by rw [←hK];exact Nat.pow_pos (by omega)
  have h2:=Nat.mul_le_mul ih hx;have h3:A≤A*K:=Nat.le_mul_of_pos_right A hK1;have e:A*(X+1) ^ (t.length+1)=A*K*X+A*K:=by rw [Nat.pow_succ,hK];grind
  omega
theorem filt_two {α:Type} (f:α→Bool):∀l:List α,l.length=(l.filter f).length+(l.filter fun a=>!f a).length
 | []=>rfl
 | a :: l=>by
  have ih:=filt_two f l;rw [List.filter_cons,List.filter_cons]
  cases f a
  ·simp only [Bool.not_false,if_true,List.length_cons]
   simp only [Bool.false_eq_true,if_false]
   omega
  ·simp only [if_true,List.length_cons,Bool.not_true,Bool.false_eq_true,if_false]
   omega
theorem evI_toR (x:Int):∀p:List Int,evR (toR p) (x:Rat)=(evI p x:Rat)
 | []=>Rat.intCast_zero.symm
 | a :: t=>by
  show evR (toR t) (x:Rat)*(x:Rat)+(a:Rat)=((evI t x*x+a:Int):Rat)
  rw [evI_toR x t,Rat.intCast_add,Rat.intCast_mul]
theorem co_rg (n:Nat→Int) (f:List Rat) (D:Nat) (h:∀i,co f i*(D:Rat)=(n i:Rat)):∀i,ci ((List.range f.length).map n) i=n i:=fun i=>by
 unfold ci;rw [List.getElem?_map]
 rcases Nat.lt_or_ge i f.length with k|k
 ·rw [List.getElem?_range k];rfl
 ·rw [List.getElem?_eq_none (by simpa using k)]
  have h1:=h i;rw [co_ge k] at h1;have h2:n i=0:=Rat.intCast_inj.1 (h1.symm.trans (by rw [Rat.intCast_zero];grind));rw [h2];rfl
theorem ev_rg {n:Nat→Int} {f:List Rat} {D:Nat} (h:∀i,co f i*(D:Rat)=(n i:Rat)) (x:Nat):(evI ((List.range f.length).map n) (x:Int):Rat)=evR f (x:Rat)*(D:Rat):=by
 rw [←evI_toR,Rat.intCast_natCast,←ev_map];refine ev_co (fun i=>?_) _;rw [co_toR,co_rg n f D h,co_map,h]
theorem factor_hf {a L:Nat} {f h p:List Rat} (hp:HF a p) (e:∀x,evR p x=evR f x*evR h x) (hf:Mo f) (hh:Mo h) (hp0:0<dgF p) (hL:dgF p≤L) (h63:L≤63):HF (2*a+23*L) f:=by
 obtain⟨hf0,hh0⟩:=dg_parts e hp0;have hdg:=dg_mul e hf0 hh0;obtain⟨D,n,D0,D1,D2⟩:=hp.nat;obtain⟨m,hm⟩:=factor_int e hh hh0 D0 fun i=>(D2 i).1;obtain⟨k,hk⟩:=factor_int (f:=h) (h:=f) (p:=p) (fun x=>by rw [e];grind) hf hf0 D0 fun i=>(D2 i).1;have tn:∀i,co (trimF p) i*(D:Rat)=(n i:Rat):=fun i=>by rw [co_trim];exact(D2 i).1
 have eP:∀x:Nat,(evI ((List.range (trimF p).length).map n) (x:Int):Rat)=evR p (x:Rat)*(D:Rat):=fun x=>by rw [ev_rg tn,ev_trim]
 have eF:=fun x:Nat=>ev_rg hm x;have eK:=fun x:Nat=>ev_rg hk x;have cP:=co_rg n (trimF p) D tn;have cF:=co_rg m f D hm;have lP:((List.range (trimF p).length).map n).length≤L:=by rw [List.length_map,List.length_range];exact hL
 have lF:((List.range f.length).map m).length≤L:=by
  have:=hf.len
  rw [List.length_map,List.length_range];omega
 generalize (List.range (trimF p).length).map n=P at eP cP lP;generalize (List.range f.length).map m=F at eF cF lF;generalize (List.range h.length).map k=K at eK
 have hfk:∀x:Nat,evI F (x:Int)*evI K (x:Int)=(D:Int)*evI P (x:Int):=fun x=>by
  apply Rat.intCast_inj.1
  rw [Rat.intCast_mul,Rat.intCast_mul,eF,eK,eP,e,Rat.intCast_natCast];grind
 have hroot:((List.range (2*L)).filter fun x=>decide (evI P ((x:Nat):Int)=0)).length<L:=by
  rcases Nat.lt_or_ge ((List.range (2*L)).filter fun x=>decide (evI P ((x:Nat):Int)=0)).length L with h1|h1
  ·exact h1
  ·exfalso
   have h2:=interp (2*L) _ P 0 (Nat.le_trans lP h1) (List.nodup_range.filter _) (fun x hx=>by
    have:=List.mem_range.1 (List.mem_filter.1 hx).1
    omega) (fun x hx=>by
    have:=of_decide_eq_true (List.mem_filter.1 hx).2
    rw [this];exact Nat.le_refl _) (dgF p - 1)
   rw [cP,Nat.zero_mul] at h2;have h3:=(D2 (dgF p - 1)).1;have h4:n (dgF p - 1)=0:=by omega
   rw [h4] at h3
   rcases Rat.mul_eq_zero.1 h3 with h5|h5
   ·exact dg_top hp0 h5
   ·have:=Rat.natCast_eq_zero_iff.1 h5
    omega
 have htwo:=filt_two (fun x:Nat=>decide (evI P (x:Int)=0)) (List.range (2*L));rw [List.length_range] at htwo;have hPv:∀x:Nat,x≤2*L→(evI P (x:Int)).natAbs≤2 ^ a*(2*L+1) ^ P.length:=fun x hx=>evI_le (2 ^ a) (2*L) x hx P fun i=>by rw [cP];exact Nat.le_of_lt (D2 i).2
 have hb:=interp (2*L) ((List.range (2*L)).filter fun x=>!decide (evI P ((x:Nat):Int)=0)) F (2 ^ a*(2 ^ a*(2*L+1) ^ L)) (by omega) (List.nodup_range.filter _) (fun x hx=>by
  have:=List.mem_range.1 (List.mem_filter.1 hx).1
  omega) (fun x hx=>by
  have h1:=List.mem_range.1 (List.mem_filter.1 hx).1;have h2:¬ evI P (x:Int)=0:=by simpa using (List.mem_filter.1 hx).2
  have h3:=congrArg Int.natAbs (hfk x);rw [Int.natAbs_mul,Int.natAbs_mul,Int.natAbs_natCast] at h3
  have h4:0<(evI K (x:Int)).natAbs:=by
   refine Nat.pos_of_ne_zero fun e0=>?_;rw [e0,Nat.mul_zero] at h3
   rcases Nat.mul_eq_zero.1 h3.symm with h5|h5
   ·omega
   ·omega
  have h5:=Nat.le_mul_of_pos_right (evI F (x:Int)).natAbs h4;have h6:=hPv x (by omega);have h7:(2*L+1) ^ P.length≤(2*L+1) ^ L:=Nat.pow_le_pow_right (by omega) lP;have h8:=Nat.mul_le_mul (Nat.le_of_lt D1) (Nat.le_trans h6 (Nat.mul_le_mul_left (2 ^ a) h7))
  omega)
 have hlen:((List.range (2*L)).filter fun x=>!decide (evI P ((x:Nat):Int)=0)).length≤2*L:=by omega
 have hpow:2 ^ a*(2 ^ a*(2*L+1) ^ L)*(2*(2*L)+3) ^ ((List.range (2*L)).filter fun x=>!decide (evI P ((x:Nat):Int)=0)).length<2 ^ (2*a+23*L):=by
  have L0:0<L:=by omega
  have h1:(2*(2*L)+3) ^ ((List.range (2*L)).filter fun x=>!decide (evI P ((x:Nat):Int)=0)).length≤(2 ^ 8) ^ (2*L):=
   Nat.le_trans (Nat.pow_le_pow_left (by omega) _) (Nat.pow_le_pow_right (by decide) hlen)
  have h2:(2*L+1) ^ L<(2 ^ 7) ^ L:=Nat.pow_lt_pow_left (by omega) (by omega)
  have e1:2 ^ (2*a+23*L)=2 ^ a*(2 ^ a*(2 ^ 7) ^ L)*(2 ^ 8) ^ (2*L):=by
   rw [←Nat.pow_mul,←Nat.pow_mul,←Nat.pow_add,←Nat.pow_add,←Nat.pow_add]
   congr 1;omega
  rw [e1];have h3:2 ^ a*(2 ^ a*(2*L+1) ^ L)<2 ^ a*(2 ^ a*(2 ^ 7) ^ L):=Nat.mul_lt_mul_of_pos_left (Nat.mul_lt_mul_of_pos_left h2 (Nat.pow_pos (by decide))) (Nat.pow_pos (by decide));exact Nat.lt_of_le_of_lt (Nat.mul_le_mul_left _ h1) (Nat.mul_lt_mul_of_pos_right h3 (Nat.pow_pos (Nat.pow_pos (by decide))))
 refine⟨(D:Int),m,by omega,?_,fun i=>⟨?_,?_⟩⟩
 ·rw [Int.natAbs_natCast]
  exact Nat.lt_of_lt_of_le D1 (Nat.pow_le_pow_right (by decide) (by omega))
 ·rw [←hm i,Rat.intCast_natCast]
 ·have:=hb i
  rw [cF] at this;exact Nat.lt_of_le_of_lt this hpow
theorem HF.sub {a b:Nat} {p q:List Rat} (hp:HF a p) (hq:HF b q):HF (a+b+1) (subF p q):=by
 obtain⟨D,n,D0,D1,D2⟩:=hp;obtain⟨E,m,E0,E1,E2⟩:=hq;have hw:2 ^ (a+b+1)=2 ^ a*2 ^ b*2:=by rw [Nat.pow_succ,Nat.pow_add]
 refine⟨D*E,fun i=>n i*E - m i*D,Int.mul_ne_zero D0 E0,?_,fun i=>⟨?_,?_⟩⟩
 ·rw [Int.natAbs_mul]
  have:=Nat.mul_lt_mul'' D1 E1
  omega
 ·rw [ev_inj (q:=zipA p (q.map (·*(-1)))) (fun x=>by rw [ev_subF,ev_zip,ev_map];grind),co_zip,co_map,Rat.intCast_sub,Rat.intCast_mul,Rat.intCast_mul,Rat.intCast_mul,←(D2 i).1,←(E2 i).1]
  grind
 ·show (n i*E - m i*D).natAbs<_
  have h1:=Int.natAbs_sub_le (n i*E) (m i*D);rw [Int.natAbs_mul,Int.natAbs_mul] at h1;have h2:=Nat.mul_lt_mul'' (D2 i).2 E1;have h3:=Nat.mul_lt_mul'' (E2 i).2 D1;rw [Nat.mul_comm (2 ^ b)] at h3;omega
theorem HF.deriv {a v:Nat} {p:List Rat} (hp:HF a p) (hv:dgF p≤2 ^ v):HF (a+v) (derivF p):=by
 obtain⟨D,n,D0,D1,D2⟩:=hp;have hw:2 ^ (a+v)=2 ^ a*2 ^ v:=Nat.pow_add ..;refine⟨D,fun i=>if i+1<dgF p then n (i+1)*((i+1:Nat):Int) else 0,D0,Nat.lt_of_lt_of_le D1 (Nat.pow_le_pow_right (by decide) (by omega)),fun i=>⟨?_,?_⟩⟩
 ·rw [co_deriv]
  show co p (i+1)*((i+1:Nat):Rat)*_=((if i+1<dgF p then n (i+1)*((i+1:Nat):Int) else 0:Int):Rat)
  split
  ·rw [Rat.intCast_mul,←(D2 _).1,Rat.intCast_natCast];grind
  ·rw [dg_ge (by omega),Rat.intCast_zero];grind
 ·show (if i+1<dgF p then n (i+1)*((i+1:Nat):Int) else 0).natAbs<_
  split
  ·rw [Int.natAbs_mul,Int.natAbs_natCast,hw]
   exact Nat.mul_lt_mul'' (D2 _).2 (by omega)
  ·exact Nat.pow_pos (by decide)
theorem HF.scale {a M:Nat} {p:List Rat} {c:Rat} (hp:HF a p) (hc:Bq M c):HF (a+M) (scaleF p c):=by
 obtain⟨D,n,D0,D1,D2⟩:=hp;have hw:2 ^ (a+M)=2 ^ a*2 ^ M:=Nat.pow_add ..;have hden:0<c.den:=Nat.pos_of_ne_zero c.den_nz;refine⟨D*c.den,fun i=>n i*c.num,Int.mul_ne_zero D0 (by omega),?_,fun i=>⟨?_,?_⟩⟩
 ·rw [Int.natAbs_mul,Int.natAbs_natCast,hw]
  exact Nat.mul_lt_mul'' D1 hc.2
 ·rw [co_scaleF,Rat.intCast_mul,Rat.intCast_mul,←(D2 i).1,←den_num c,Rat.intCast_natCast];grind
 ·rw [Int.natAbs_mul,hw]
  exact Nat.mul_lt_mul'' (D2 i).2 hc.1
theorem HF.mul {a b v:Nat} {p q:List Rat} (hp:HF a p) (hq:HF b q) (hv:p.length≤2 ^ v):HF (a+b+v+1) (mulF p q):=by
 obtain⟨D,n,D0,D1,D2⟩:=hp;obtain⟨E,m,E0,E1,E2⟩:=hq
 have hw:2 ^ (a+b+v+1)=2 ^ v*(2 ^ a*2 ^ b)*2:=by
  rw [Nat.pow_succ,Nat.mul_comm (2 ^ v),←Nat.pow_add,←Nat.pow_add]
 have hv1:1≤2 ^ v:=Nat.pow_pos (by decide);refine⟨D*E,fun i=>ipc n m p.length i,Int.mul_ne_zero D0 E0,?_,fun i=>⟨?_,?_⟩⟩
 ·rw [Int.natAbs_mul]
  have h1:=Nat.mul_lt_mul'' D1 E1;have h2:1*(2 ^ a*2 ^ b)≤2 ^ v*(2 ^ a*2 ^ b):=Nat.mul_le_mul_right _ hv1;omega
 ·have e:=co_prod (z:=n) (n:=m) (P:=q.map (·*(E:Rat))) (fun i=>by rw [co_map];exact(E2 i).1) p.length i
  rw [←e,ev_inj (p:=mulF ((List.range p.length).map fun j=>(n j:Rat)) (q.map (·*(E:Rat)))) (q:=(mulF p q).map (·*((D:Rat)*(E:Rat)))) (fun x=>?_),co_map,Rat.intCast_mul];rw [ev_mulF,ev_map,ev_map,ev_mulF]
  have e2:evR ((List.range p.length).map fun j=>(n j:Rat)) x=evR p x*(D:Rat):=by
   rw [←ev_map];refine ev_co (fun i=>?_) x;rw [co_list,co_map,(D2 i).1]
   split
   ·rfl
   ·rw [←(D2 i).1,co_ge (by omega)];grind
  rw [e2];grind
 ·show (ipc n m p.length i).natAbs<_
  have h1:=ipc_bound (f:=n) (g:=m) (K:=2 ^ a) (A:=2 ^ b) (fun j=>Nat.le_of_lt (D2 j).2) (fun j=>Nat.le_of_lt (E2 j).2) i p.length
  have h2:p.length*2 ^ a*2 ^ b≤2 ^ v*(2 ^ a*2 ^ b):=by
   rw [Nat.mul_assoc];exact Nat.mul_le_mul_right _ hv
  have h3:0<2 ^ v*(2 ^ a*2 ^ b):=Nat.mul_pos hv1 (Nat.mul_pos (Nat.pow_pos (by decide)) (Nat.pow_pos (by decide)));omega
end Go.Proofs.YtaaoleakkaloeaaGreatDoor
set_option linter.unusedVariables false
set_option maxRecDepth 100000
set_option maxHeartbeats 64000000
namespace Go.Proofs.YtaaoleakkaloeaaGreatDoor
set_option linter.unusedSimpArgs false
def bdF (a L:Nat):Nat:=2*a+23*L
theorem factor_dv {a L:Nat} {f p:List Rat} (hp:HF a p) (mp:Mo p) (mf:Mo f) (h:Dv f p) (hp0:0<dgF p) (hL:dgF p≤L) (h63:L≤63):HF (bdF a L) f:=by
 have f0:=(h.dg hp0).1;have e:=quo_dv f0 h;obtain⟨mh,-⟩:=mp.quo hp0 mf (quo_trim _ _) e;exact factor_hf hp e mf mh hp0 hL h63
theorem pow6 {L:Nat} (h:L≤63) {n:Nat} (k:n≤L):n≤2 ^ 6:=by omega
end Go.Proofs.YtaaoleakkaloeaaGreatDoor
set_option linter.unusedVariables false
set_option maxRecDepth 100000
set_option maxHeartbeats 64000000
namespace Go.Proofs.YtaaoleakkaloeaaGreatDoor
set_option linter.unusedSimpArgs false
theorem hf_list {p:List Rat} {M N:Nat} (h:∀x ∈ p,Bq M x) (hd:dgF p≤N):HF (N*M+1) p:=by
 have h1:=hf_of_bq (trimF p) fun c hc=>h c (trim_mem hc);have h2:(trimF p).length*M≤N*M:=Nat.mul_le_mul_right _ hd;exact(h1.mono (by omega)).eqv fun i=>(co_trim p i).symm
theorem big_le {p:List Rat} (h:bigF p=false):dgF p≤41:=by
 have:=of_decide_eq_false h
 show (trimF p).length≤41
 omega
theorem ask_zero {p:List Rat} (h:askF p=0):bigF p=false∧trimF p≠[]:=by
 unfold askF at h
 split at h
 ·cases h
 ·rename_i h1
  split at h
  ·cases h
  ·rename_i h2
   exact⟨by cases hb:bigF p with|true=>exact absurd hb h1|false=>rfl,h2⟩
end Go.Proofs.YtaaoleakkaloeaaGreatDoor
