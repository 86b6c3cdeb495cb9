/- What the rows' lists give at the seat of the Poly laws: the table of powers of ten. -/
import Derived.Test.YtkoaakefgacokaaGreatDoorGYy
import Derived.Test.YtkoaakefgacokaaGreatDoorGYd
import Derived.Test.YtkoaakefgacokaaGreatDoorCards
import Derived.Test.YtkoaakefgacokaaGreatDoorTie
import Derived.WalkKit
import Derived.ProofKit
import Derived.OpenShut
import Derived.MakeChecks
import Derived.Lay
import Derived.Deep.DeepHandedRow
import Derived.Lib.LaidU8
import Derived.Test.YtkoaakefgacokaaGreatDoorGJb
import Derived.Test.YtkoaakefgacokaaGreatDoorGYa
import Derived.Test.YtkoaakefgacokaaGreatDoorGYh
import Derived.Test.YtkoaakefgacokaaGreatDoorGYp
set_option linter.unusedVariables false
set_option linter.unusedSimpArgs false
set_option maxRecDepth 100000
set_option maxHeartbeats 64000000
namespace Go.Proofs.YtkoaakefgacokaaGreatDoor
open Go.ChangeShapes Go.WideShapes Go.ChangeAt Go.RowKit
theorem tensP {W:World} (h:Lib.VarReads Tryz.prog W "internal/strconv.uint64pow10" Rows.laid_internal_strconv_uint64pow10):Tens W:=by
 obtain⟨g,t,cs,fuel,p,hg,ht,hv,hd⟩:=h;have hg':Tryz.prog.globalNamed "internal/strconv.uint64pow10"=some 3:=by kernel_rfl
 obtain rfl:=Option.some.inj (hg'.symm.trans hg);have ht':(Tryz.prog.globals[(3:Nat)]?).map (·.type)=some 184:=by kernel_rfl
 obtain rfl:=Option.some.inj (ht'.symm.trans ht);have e:(Rows.laid_internal_strconv_uint64pow10:DataW Unit)=Lib.tabData .u64 Lib.pow10Tab:=by kernel_rfl
 rw [e] at hd;unfold Tens Lib.TabIs;rw [hv,←Lib.cells_of_tab Tryz.underlying184 Tryz.underlying85 (by kernel_rfl) (by kernel_rfl) hd]
theorem tensP_of {W:World} {l:List (String × DataW Unit)} (h:laidMetH Tryz.prog l W) (hp:(l.all fun x=>x.2.handleName?.isNone)=true) (h1:("internal/strconv.uint64pow10",Rows.laid_internal_strconv_uint64pow10) ∈ l):Tens W:=by
 rw [MakeChecks.laidMetH_plain _ _ _ hp] at h;exact tensP (Lib.laidMet.reads h h1)
end Go.Proofs.YtkoaakefgacokaaGreatDoor
namespace Go.Proofs.YtkoaakefgacokaaGreatDoor
theorem pow6 {L:Nat} (h:L≤63) {n:Nat} (k:n≤L):n≤2 ^ 6:=by omega
theorem ask_zero {p:List Rat} (h:askF p=0):bigF p=false∧trimF p≠[]:=by
 unfold askF at h
 split at h
 ·cases h
 ·rename_i h1
  split at h
  ·cases h
  ·rename_i h2
   exact⟨by cases hb:bigF p with|true=>exact absurd hb h1|false=>rfl,h2⟩
end Go.Proofs.YtkoaakefgacokaaGreatDoor
namespace Go.Proofs.YtkoaakefgacokaaGreatDoor
open Go Go.RowKit
def Px (w:World) (v:Value) (p:List Rat) (N M:Nat):Prop:=Pl w v p∧p.length≤N∧∀x ∈ p,Bq M x
theorem Px.mono {w w':World} {v:Value} {p:List Rat} {N M:Nat} (h:Px w v p N M) (k:Ext w w'):Px w' v p N M:=⟨h.1.mono k,h.2⟩
theorem Px.up {w:World} {v:Value} {p:List Rat} {N M N' M':Nat} (h:Px w v p N M) (hN:N≤N') (hM:M≤M'):Px w v p N' M':=⟨h.1,Nat.le_trans h.2.1 hN,fun x hx=>(h.2.2 x hx).mono hM⟩
theorem lt_of_block' {W:World} {k:Nat} {o:Obj} (h:W.heap[k]?=some o):k<W.heap.size:=(Array.getElem?_eq_some_iff.1 h).1
structure RgS (W0 W:World) (ks:List (Nat × Obj)) (ns:List (Value × Rat)):Prop where
 ext:Ext W0 W
 keep:∀p ∈ ks,W0.heap.size≤p.1∧W.heap[p.1]?=some p.2
 nn:∀y ∈ ns,Nm W y.1 y.2
theorem RgS.start (W:World):RgS W W [] []:=⟨ae _,(fun p hp=>by cases hp),(fun p hp=>by cases hp)⟩
theorem RgS.mono {W0 W W':World} {ks:List (Nat × Obj)} {ns:List (Value × Rat)} (h:RgS W0 W ks ns) (k:Ext W W'):RgS W0 W' ks ns:=
 ⟨al h.ext k,(fun p hp=>⟨(h.keep p hp).1,(k.block _ (lt_of_block' (h.keep p hp).2)).trans (h.keep p hp).2⟩),(fun y hy=>(h.nn y hy).mono k)⟩
theorem RgS.alloc {W0 W:World} {ks:List (Nat × Obj)} {ns:List (Value × Rat)} (h:RgS W0 W ks ns) (o:Obj):RgS W0 (W.alloc o) ((W.heap.size,o) :: ks) ns:=by
 have hm:=h.mono (ab W o);refine⟨hm.ext,fun p hp=>?_,hm.nn⟩
 rcases List.mem_cons.1 hp with rfl|hp
 ·exact⟨h.ext.size,heap_alloc_new _ _⟩
 ·exact hm.keep p hp
theorem RgS.num {W0 W:World} {ks:List (Nat × Obj)} {ns:List (Value × Rat)} {v:Value} {q:Rat} (h:RgS W0 W ks ns) (hq:Nm W v q):RgS W0 W ks ((v,q) :: ns):=
 ⟨h.ext,h.keep,fun y hy=>by
  rcases List.mem_cons.1 hy with rfl|hy
  ·exact hq
  ·exact h.nn y hy⟩
theorem RgS.sub {W0 W:World} {ks ks':List (Nat × Obj)} {ns:List (Value × Rat)} (h:RgS W0 W ks ns) (hs:∀p ∈ ks',p ∈ ks):RgS W0 W ks' ns:=⟨h.ext,(fun p hp=>h.keep p (hs p hp)),h.nn⟩
theorem RgS.put {W0 W:World} {ks:List (Nat × Obj)} {ns:List (Value × Rat)} {g:Nat} {s:Bool} {A B:Option Addr} {k ca l cb:Nat} {T:TypeId} (h:RgS W0 W ks ns) (hg:(g,.cells #[.bool s,.slice A k ca,.slice B l cb] T) ∈ ks) (a b c:Value):RgS W0 (put3at W g 0 a b c) (ks.map fun p=>if p.1=g then (g,.cells #[a,b,c] T) else p) ns:=by
 obtain⟨hge,hr⟩:=h.keep _ hg;refine⟨((h.ext.setCell hge _).setCell hge _).setCell hge _,fun p hp=>?_,fun y hy=>nm_put3b (h.nn y hy) hr a b c⟩;obtain⟨p0,h0,rfl⟩:=List.mem_map.1 hp
 by_cases hpg:p0.1=g
 ·rw [if_pos hpg];exact⟨hge,put3b_row hr a b c⟩
 ·rw [if_neg hpg];exact⟨(h.keep p0 h0).1,(put3b_other a b c hpg).trans (h.keep p0 h0).2⟩
section
variable {P:Program} {md:Region.Mode} {ops:Array Oper} {Q:Exit→Act→World→Prop} {S:World→Prop}
end
def BoxN (W:World) (p:Value) (x:Rat):Prop:=∃g s A k ca B l cb,p=.pointer (some ⟨g,0,none⟩)∧W.heap[g]?=some (.cells #[.bool s,.slice A k ca,.slice B l cb] 38 (0,0))∧Nm W (.agg #[.bool s,.slice A k ca,.slice B l cb]) x
def BoxS (W:World) (p:Value) (lo hi:Rat):Prop:=∃g s A k ca B l cb s' A' k' ca' B' l' cb',p=.pointer (some ⟨g,0,none⟩)∧W.heap[g]?=some (.cells #[.bool s,.slice A k ca,.slice B l cb,.bool s',.slice A' k' ca',.slice B' l' cb'] 40 (0,0))∧Sp W (.agg #[.bool s,.slice A k ca,.slice B l cb,.bool s',.slice A' k' ca',.slice B' l' cb']) lo hi
theorem RgS.put6 {W0 W:World} {ks:List (Nat × Obj)} {ns:List (Value × Rat)} {g:Nat} {s:Bool} {A:Option Addr} {k ca:Nat} {B:Option Addr} {l cb:Nat} {s':Bool} {A':Option Addr} {k' ca':Nat} {B':Option Addr} {l' cb':Nat} {T:TypeId} (h:RgS W0 W ks ns) (hg:(g,.cells #[.bool s,.slice A k ca,.slice B l cb,.bool s',.slice A' k' ca',.slice B' l' cb'] T) ∈ ks) (a b c d e f:Value):RgS W0 (Proofs.YtkoaakefgacokaaGreatDoor.put6 W g a b c d e f) (ks.map fun p=>if p.1=g then (g,.cells #[a,b,c,d,e,f] T) else p) ns:=by
 obtain⟨hge,hr⟩:=h.keep _ hg;refine⟨af h.ext hge ..,fun p hp=>?_,fun y hy=>(h.nn y hy).put6 hr ..⟩;obtain⟨p0,h0,rfl⟩:=List.mem_map.1 hp
 by_cases hpg:p0.1=g
 ·rw [if_pos hpg];exact⟨hge,ag hr ..⟩
 ·rw [if_neg hpg];exact⟨(h.keep p0 h0).1,(put6_oth _ _ _ _ _ _ hpg).trans (h.keep p0 h0).2⟩
end Go.Proofs.YtkoaakefgacokaaGreatDoor
namespace Go.Proofs.YtkoaakefgacokaaGreatDoor
def Up (s:Rat) (p:List Rat) (a b:Rat):Prop:=∀x y,a≤x→x<y→y≤b→s*evR p x<s*evR p y
def Pie (p:List Rat) (c:List (List Rat)) (a b:Rat):Prop:=
 (∃s,Pm s∧Fx s p a b∧∃N:Int,∀x,a≤x→x≤b→vF c x=N) ∨
 (∃s,Pm s∧Up s p a b∧∃N:Int,∀x,a≤x→x≤b→vF c x=chg (atF x p) (si s)+N)
theorem piece {B:Rat} (hB:0≤B) {p q:List Rat} {l:List (List Rat)} (hc:Chn (p :: q :: l)) {μ:Rat} (hμ:0<μ) (hq:∀x,evR q x=μ*evR (derivF p) x):∃d,0<d∧∀a b,Ab B a→Ab B b→a≤b→b - a≤d→Pie p (p :: q :: l) a b:=by
 obtain⟨κ,κ0,hη⟩:=hc.loc hB _ _ rfl;obtain⟨Kq,kq0,kq⟩:=syn_ab hB q;obtain⟨K2,k20,k2⟩:=syn2_ab hB p;obtain⟨d1,e,d10,e0,-,h1⟩:=hη 1 (by decide)
 obtain⟨d2,d20,d2a,d2b⟩:=small_ex (e:=κ) (K:=2*Kq+2*(μ*K2)) (n:=d1) κ0 (by
  have:=Rat.mul_nonneg (Rat.le_of_lt hμ) k20
  grind) d10
 refine⟨d2,d20,fun a b ha hb hab hba=>?_⟩;obtain⟨t1,t2⟩:=h1 a b ha hb hab (Rat.le_trans hba d2b);obtain⟨σ,hσ,hσp⟩:=pm_of (evR p a)
 rcases lt_or_le' (σ*evR p a) e with h|h
 ·obtain⟨q',m,s,hl,hs,hsq,hg⟩:=t2 (by rcases hσ with rfl|rfl <;> grind) (by rcases hσ with rfl|rfl <;> grind)
  injection hl with hl1 hl2
  subst hl1 hl2;obtain⟨N,hN⟩:=hg.head (p:=p);refine .inr ⟨s,hs,fun x y hax hxy hyb=>?_,N,hN⟩
  have hx:Ab B x:=by
   have q1:=ha.1;have q2:=hb.2
   constructor <;> grind
  have hy:Ab B y:=by
   have q1:=ha.1;have q2:=hb.2
   constructor <;> grind
  have g1:=ev_syn a x q;have g2:=(show Ab d2 (x - a) by constructor <;> grind).mul (kq a x ha hx);have g3:=(show Ab d2 (y - x) by constructor <;> grind).mul (k2 x y hx hy);have g4:=taylor x y p;have g5:=hq x;have g6:=(g2.pm hs);have g7:=(g3.pm hs);have g8:=(show Ab μ μ from ⟨by grind,Rat.le_refl⟩).mul g7
  have pos:0<μ*(s*(evR (derivF p) x+(y - x)*evR (syn x (syn x p)) y)):=by
   have b1:=g6.1;have b2:=g8.1
   have e1:μ*(s*(evR (derivF p) x+(y - x)*evR (syn x (syn x p)) y))=s*evR q a+s*((x - a)*evR (syn a q) x)+μ*(s*((y - x)*evR (syn x (syn x p)) y)):=by
    rw [g1] at g5
    grind
   rw [e1]
   grind
  have pos2:0<s*(evR (derivF p) x+(y - x)*evR (syn x (syn x p)) y):=by
   rcases lt_or_le' 0 (s*(evR (derivF p) x+(y - x)*evR (syn x (syn x p)) y)) with h9|h9
   ·exact h9
   ·exfalso
    have:=Rat.mul_nonneg (Rat.le_of_lt hμ) (show 0≤-(s*(evR (derivF p) x+(y - x)*evR (syn x (syn x p)) y)) by grind)
    grind
  have pos3:=Rat.mul_pos (show 0<y - x by grind) pos2;rw [g4]
  grind
 ·obtain⟨N,hN⟩:=(t1 σ hσ h).same
  refine .inl ⟨σ,hσ,?_,N,hN⟩
  have:=t1 σ hσ h
  cases this with
  | next _ hf _=>exact hf
  | skip _ hf _=>exact hf
theorem chg_up {x y s:Rat} {p:List Rat} (hs:Pm s) (h:s*evR p x≤s*evR p y):chg (atF y p) (si s)≤chg (atF x p) (si s):=by
 have e1:chg 0 1=0:=rfl;have e2:chg 1 1=0:=rfl;have e3:chg (-1) 1=1:=rfl;have e4:chg 0 (-1)=0:=rfl;have e5:chg 1 (-1)=1:=rfl;have e6:chg (-1) (-1)=0:=rfl
 rcases hs with rfl|rfl
 ·rw [si_one]
  rcases at_cases x p with ⟨a1,b1⟩|⟨a1,b1⟩|⟨a1,b1⟩ <;> rcases at_cases y p with ⟨a2,b2⟩|⟨a2,b2⟩|⟨a2,b2⟩ <;> rw [a1,a2] <;> first|omega|(exfalso;grind)
 ·rw [si_neg]
  rcases at_cases x p with ⟨a1,b1⟩|⟨a1,b1⟩|⟨a1,b1⟩ <;> rcases at_cases y p with ⟨a2,b2⟩|⟨a2,b2⟩|⟨a2,b2⟩ <;> rw [a1,a2] <;> first|omega|(exfalso;grind)
theorem by_pieces {d:Rat} (hd:0<d) (R:Rat→Rat→Prop) (refl:∀x,R x x) (trans:∀x y z,x≤y→y≤z→R x y→R y z→R x z) {lo hi:Rat} (short:∀a b,lo≤a→a≤b→b≤hi→b - a≤d→R a b):∀(n:Nat) (a b:Rat),lo≤a→a≤b→b≤hi→b - a≤(n:Rat)*d→R a b
 | 0,a,b,h1,h2,h3,h4=>by
  have:a=b:=by
   have e:((0:Nat):Rat)=0:=rfl;rw [e] at h4
   grind
  rw [this];exact refl b
 | n+1,a,b,h1,h2,h3,h4=>by
  rcases lt_or_le' d (b - a) with h|h
  ·refine trans a (a+d) b (by grind) (by grind) (short a (a+d) h1 (by grind) (by grind) (by grind)) (by_pieces hd R refl trans short n (a+d) b (by grind) (by grind) h3 ?_)
   rw [Rat.natCast_add] at h4;have e:((1:Nat):Rat)=1:=rfl;rw [e] at h4
   grind
  ·exact short a b h1 h2 h3 h
theorem arch {d:Rat} (hd:0<d) (x:Rat):∃n:Nat,x≤(n:Rat)*d:=by
 have h3:=Rat.mul_inv_cancel d (by grind)
 obtain⟨n,hn⟩:∃n:Nat,x*d⁻¹≤(n:Rat):=by
  refine⟨(x*d⁻¹).ceil.toNat,?_⟩;have h1:=Rat.le_ceil (x:=x*d⁻¹);have h2:((x*d⁻¹).ceil:Rat)≤(((x*d⁻¹).ceil.toNat:Int):Rat):=Rat.intCast_le_intCast.2 (by omega);rw [Rat.intCast_natCast] at h2;exact Rat.le_trans h1 h2
 refine⟨n,?_⟩;have h4:=Rat.mul_nonneg (show 0≤(n:Rat) - x*d⁻¹ by grind) (Rat.le_of_lt hd);have h5:((n:Rat) - x*d⁻¹)*d=(n:Rat)*d - x*(d*d⁻¹):=by grind
 rw [h5,h3] at h4;generalize (n:Rat)=m at *;clear h3 hn h5
 grind
theorem global {p q:List Rat} {l:List (List Rat)} (hc:Chn (p :: q :: l)) {μ:Rat} (hμ:0<μ) (hq:∀x,evR q x=μ*evR (derivF p) x) (R:Rat→Rat→Prop) (refl:∀x,R x x) (trans:∀x y z,x≤y→y≤z→R x y→R y z→R x z) {lo hi:Rat} (hlh:lo≤hi) (short:∀a b,lo≤a→a≤b→b≤hi→Pie p (p :: q :: l) a b→R a b):R lo hi:=by
 obtain⟨K1,k1,a1⟩:=ab_ex lo;obtain⟨K2,k2,a2⟩:=ab_ex hi;obtain⟨B,b1,b2⟩:=ab_max (K:=K1) (L:=K2);obtain⟨d,d0,h⟩:=piece (B:=B) (by grind) hc hμ hq;obtain⟨n,hn⟩:=arch d0 (hi - lo);have q1:=a1.1;have q2:=a2.2;exact by_pieces d0 R refl trans (fun a b g1 g2 g3 g4=>short a b g1 g2 g3 (h a b ⟨by grind,by grind⟩ ⟨by grind,by grind⟩ g2 g4)) n lo hi Rat.le_refl hlh Rat.le_refl hn
theorem v_down {p q:List Rat} {l:List (List Rat)} (hc:Chn (p :: q :: l)) {μ:Rat} (hμ:0<μ) (hq:∀x,evR q x=μ*evR (derivF p) x) {x y:Rat} (h:x≤y):vF (p :: q :: l) y≤vF (p :: q :: l) x:=by
 refine global hc hμ hq (fun a b=>vF (p :: q :: l) b≤vF (p :: q :: l) a) (fun x=>Int.le_refl _) (fun x y z _ _ h1 h2=>Int.le_trans h2 h1) h fun a b h1 h2 h3 hp=>?_
 rcases hp with ⟨s,hs,hf,N,hN⟩|⟨s,hs,hu,N,hN⟩
 ·rw [hN a Rat.le_refl h2,hN b h2 Rat.le_refl]
  exact Int.le_refl _
 ·rw [hN a Rat.le_refl h2,hN b h2 Rat.le_refl]
  have:s*evR p a≤s*evR p b:=by
   rcases lt_or_le' a b with g|g
   ·exact Rat.le_of_lt (hu a b Rat.le_refl g Rat.le_refl)
   ·have:a=b:=by grind
    rw [this];exact Rat.le_refl
  have:=chg_up hs this
  omega
theorem v_fix {p q:List Rat} {l:List (List Rat)} (hc:Chn (p :: q :: l)) {μ:Rat} (hμ:0<μ) (hq:∀x,evR q x=μ*evR (derivF p) x) {x y s:Rat} (h:x≤y) (hs:Pm s) (hf:Fx s p x y):vF (p :: q :: l) y=vF (p :: q :: l) x:=by
 refine global hc hμ hq (fun a b=>vF (p :: q :: l) b=vF (p :: q :: l) a) (fun x=>rfl) (fun x y z _ _ h1 h2=>h2.trans h1) h fun a b h1 h2 h3 hp=>?_
 rcases hp with ⟨_,_,_,N,hN⟩|⟨t,ht,hu,N,hN⟩
 ·rw [hN a Rat.le_refl h2,hN b h2 Rat.le_refl]
 ·rw [hN a Rat.le_refl h2,hN b h2 Rat.le_refl,at_si hs (hf a h1 (Rat.le_trans h2 h3)),at_si hs (hf b (Rat.le_trans h1 h2) h3)]
theorem base_sq:∀(n:Nat) (p:List Rat),Mo p→0<dgF p→dgF p≤n→Cop (baseP p) (derivF (baseP p))
 | 0,p,_,h0,hn=>by omega
 | n+1,p,hp,h0,hn=>by
  rcases Nat.lt_or_ge 1 (dgF p) with h1|h1
  ·obtain⟨P,C,e1,Pm,P0,b1,e2,e3,tC,e4,c1,c2⟩:=yun_step hp h1 (base_ev h0) (quo_dv (nextP_pos h0) (nextP_dv p).2) (quo_trim _ _)
   have ih:=base_sq n (nextP p) (nextP_mo p) (nextP_pos h0) (by have:=nextP_less h1;omega);have hd:=deriv_prod e2;have f1:Cop P (mulF (derivF P) (baseP (nextP p))):=c1.mul c2 fun x=>ev_mulF _ _ x;have f2:Cop P (derivF (baseP p)):=f1.add (c:=derivF (baseP (nextP p))) fun x=>by rw [ev_mulF,hd]
   have f3:Cop (baseP (nextP p)) (mulF P (derivF (baseP (nextP p)))):=c2.symm.mul ih fun x=>ev_mulF _ _ x;have f4:Cop (baseP (nextP p)) (derivF (baseP p)):=f3.add (c:=derivF P) fun x=>by rw [ev_mulF,hd];grind
   exact(f2.symm.mul f4.symm e2).symm
  ·obtain⟨m,b0⟩:=base_mo hp h0
   have hb:=dg_mul (base_ev h0) (nextP_pos h0) b0;have q0:=nextP_pos h0;rw [mo_one_of m (by omega)];exact⟨[1],[],fun x=>by rw [ev_one,ev_nil];grind⟩
theorem Cop.scale {p q r s:List Rat} {c d:Rat} (h:Cop p q) (hc:c≠0) (hd:d≠0) (hr:∀x,evR r x=evR p x*c) (hs:∀x,evR s x=evR q x*d):Cop r s:=by
 obtain⟨u,v,e⟩:=h;refine⟨scaleF u (1 / c),scaleF v (1 / d),fun x=>?_⟩;rw [ev_scaleF,ev_scaleF,hr,hs];have h1:=inv_ne hc;have h2:=inv_ne hd;have h3:=e x;generalize 1 / c=c' at *;generalize 1 / d=d' at *
 have:evR u x*c'*(evR p x*c)+evR v x*d'*(evR q x*d)=evR u x*evR p x*(c*c')+evR v x*evR q x*(d*d'):=by grind
 rw [this,h1,h2];grind
theorem simple_ev {p:List Rat} (h0:0<dgF p) (x:Rat):evR (simpleF p) x=evR (baseP (monicF p)) x*topF (trimF p):=by
 have q0:=nextP_pos h0;have m0:0<dgF (monicF p):=by rw [dg_mon];exact h0
 have hb:=base_ev m0;rw [next_mon] at hb
 have:=ev_cancel (p:=nextP p) (q:=simpleF p) (r:=scaleF (baseP (monicF p)) (topF (trimF p))) q0 (fun x=>by
  have e:evR p x=evR (nextP p) x*evR (simpleF p) x:=quo_dv q0 (nextP_dv p).1 x;rw [←e,ev_scaleF,mon_back h0,hb];grind) x
 rw [this,ev_scaleF]
theorem simple_cop {p:List Rat} (h0:0<dgF p):Cop (simpleF p) (derivF (simpleF p)):=by
 have m0:0<dgF (monicF p):=by rw [dg_mon];exact h0
 have ht:=top_trim_ne (trim_ne h0);refine(base_sq _ (monicF p) (mo_mon p) m0 (Nat.le_refl _)).scale ht ht (simple_ev h0) fun x=>?_;rw [deriv_prod (p:=baseP (monicF p)) (q:=[topF (trimF p)]) (fun x=>by rw [ev_const];exact simple_ev h0 x),ev_const];have z:evR (derivF [topF (trimF p)]) x=0:=dgz (by rw [dg_deriv];have:=dg_len [topF (trimF p)];simp at this;omega) x;rw [z];grind
theorem simple_dg {p:List Rat} (h0:0<dgF p):0<dgF (simpleF p)∧trimF (simpleF p)=simpleF p∧dgF (simpleF p)≤dgF p:=by
 have e:∀x,evR p x=evR (nextP p) x*evR (simpleF p) x:=fun x=>quo_dv (nextP_pos h0) (nextP_dv p).1 x;have h1:=(dg_parts e h0).2;have h2:=dg_mul e (nextP_pos h0) h1;have h3:=nextP_pos h0;exact⟨h1,quo_trim _ _,by omega⟩
theorem absQ_pos {x:Rat} (h:x≠0):0<absQ x:=by
 unfold absQ
 split
 ·rename_i h1
  rcases Rat.le_total (a:=0) (b:=x) with h2|h2
  ·have:=Rat.num_nonneg.2 h2
   omega
  ·grind
 ·rename_i h1
  have:=Rat.num_nonneg.1 (show 0≤x.num by omega)
  grind
theorem small_ev {p:List Rat} (h:0<dgF p):∃k,0<k∧(∀x,evR (smallF p) x=evR p x*k)∧(∀x,evR p x=evR (smallF p) x*(1 / k))∧0<1 / k:=by
 have ht:=top_trim_ne (trim_ne h);have h1:=absQ_pos ht;have h2:0<(absQ (topF (trimF p)))⁻¹:=Rat.inv_pos.2 h1;have h3:0<1 / absQ (topF (trimF p)):=by rw [Rat.div_def];grind
 refine⟨1 / absQ (topF (trimF p)),h3,fun x=>?_,fun x=>?_,?_⟩
 ·unfold smallF
  rw [if_neg (trim_ne h),ev_scaleF,ev_trim]
 ·unfold smallF
  rw [if_neg (trim_ne h),ev_scaleF,ev_trim]
  have:=inv_ne (show (1 / absQ (topF (trimF p)))≠0 by grind)
  grind
 ·rw [Rat.div_def]
  have:=Rat.inv_pos.2 h3
  grind
theorem small_nil {p:List Rat} (h:dgF p=0):smallF p=[]:=by unfold smallF;rw [if_pos (trim_nil h)]
theorem small_trim (p:List Rat):trimF (smallF p)=smallF p:=by
 unfold smallF
 split
 ·rfl
 ·exact trim_trim _
theorem dgSm (p:List Rat):dgF (smallF p)=dgF p:=by
 rcases Nat.eq_zero_or_pos (dgF p) with h|h
 ·rw [small_nil h,h];rfl
 ·obtain⟨k,k0,h1,h2,-⟩:=small_ev h
  exact Nat.le_antisymm (dg_scale h1) (dg_scale h2)
theorem chain_one (n:Nat) {p:List Rat} (h:p≠[]):chainU (n+1) p []=[p]:=by
 show (if p=[] then [] else if ([]:List Rat)=[] then [p] else _)=_
 rw [if_neg h,if_pos rfl]
theorem chain_two (n:Nat) {p q:List Rat} (h:p≠[]) (hq:q≠[]):chainU (n+1) p q=p :: chainU n q (smallF (scaleF (divF p q).2 (-1))):=by
 show (if p=[] then [] else if q=[] then [p] else _)=_
 rw [if_neg h,if_neg hq]
theorem ne_of_dg {p:List Rat} (h:0<dgF p):p≠[]:=fun e=>by rw [e] at h;exact absurd h (by decide)
theorem chn_of:∀(n:Nat) (p q:List Rat),0<dgF p→0<dgF q→dgF q<n→Cop p q→Chn (chainU (n+1) p q)∧∃l,chainU (n+1) p q=p :: q :: l
 | 0,p,q,_,_,h,_=>by omega
 | n+1,p,q,hp,hq,hn,hc=>by
  rw [chain_two (n+1) (ne_of_dg hp) (ne_of_dg hq)];obtain⟨d1,-,-⟩:=div_ev p q hq;have dr:=div_dg p q hq;have e1:∀x,evR (scaleF (divF p q).2 (-1)) x=evR (divF p q).2 x*(-1):=fun x=>ev_scaleF _ _ x;have dr2:dgF (scaleF (divF p q).2 (-1))=dgF (divF p q).2:=Nat.le_antisymm (dg_scale e1) (dg_scale (c:=-1) fun x=>by rw [e1];grind)
  rcases Nat.eq_zero_or_pos (dgF (divF p q).2) with h|h
  ·rw [small_nil (by omega),chain_one n (ne_of_dg hq)]
   refine⟨.two hc ?_,[],rfl⟩;obtain⟨u,v,e⟩:=hc
   have h1:Dv q [1]:=⟨addF (mulF u (divF p q).1) v,fun x=>by
    rw [ev_one,ev_addF,ev_mulF,←e x,d1 x,dgz h];grind⟩
   have h2:=(h1.dg (by decide)).2;have h3:dgF [(1:Rat)]=1:=by decide
   have h4:∀x,evR q x=co q 0:=fun x=>ev_dg1 (by omega) x;refine .one (k:=co q 0) (fun z=>?_) h4
   have:=dg_of_zero (p:=q) fun x=>by rw [h4,z]
   omega
  ·obtain⟨k,k0,s1,s2,k1⟩:=small_ev (p:=scaleF (divF p q).2 (-1)) (by omega)
   have dr3:dgF (smallF (scaleF (divF p q).2 (-1)))=dgF (divF p q).2:=by rw [dgSm,dr2]
   have rel:∀x,evR p x=evR (divF p q).1 x*evR q x - 1 / k*evR (smallF (scaleF (divF p q).2 (-1))) x:=fun x=>by
    have f1:=s2 x;rw [e1] at f1;rw [d1 x]
    grind
   have hc2:Cop q (smallF (scaleF (divF p q).2 (-1))):=by
    have g1:Cop q (divF p q).2:=hc.symm.add (c:=scaleF (divF p q).1 (-1)) fun x=>by rw [ev_scaleF,d1 x];grind
    exact g1.scale (c:=1) (d:=-1*k) (by decide) (by grind) (fun x=>by grind) fun x=>by rw [s1,e1];grind
   obtain⟨i1,l,i2⟩:=chn_of n q (smallF (scaleF (divF p q).2 (-1))) hq (by omega) (by omega) hc2;refine⟨?_,chainU n (smallF (scaleF (divF p q).2 (-1))) (smallF (scaleF (divF q (smallF (scaleF (divF p q).2 (-1)))).2 (-1))),?_⟩
   ·rw [i2] at i1 ⊢
    exact .more hc k1 rel i1
   ·rw [chain_two n (ne_of_dg hq) (ne_of_dg (by omega))]
theorem own_chain {p:List Rat} (h0:0<dgF p):(dgF (simpleF p)=1∧∃c,ownF p=[c]∧∃k,k≠0∧∀x,evR c x=k)∨(1<dgF (simpleF p)∧∃p0 q l k μ,ownF p=p0 :: q :: l∧Chn (p0 :: q :: l)∧0<k∧(∀x,evR p0 x=evR (simpleF p) x*k)∧0<μ∧∀x,evR q x=μ*evR (derivF p0) x):=by
 obtain⟨s0,st,-⟩:=simple_dg h0;have hc:=simple_cop h0;unfold ownF chainF;have hsl:dgF (simpleF p)=(simpleF p).length:=by unfold dgF;rw [st]
 generalize simpleF p=s at *;obtain⟨k,k0,e1,e2,k1⟩:=small_ev s0
 rcases Nat.lt_or_ge 1 (dgF s) with h1|h1
 ·have d0:0<dgF (derivF s):=by rw [dg_deriv];omega
  obtain⟨m,m0,f1,f2,m1⟩:=small_ev d0;obtain⟨i1,l,i2⟩:=chn_of (s.length+(derivF s).length+1) (smallF s) (smallF (derivF s)) (by rw [dgSm];exact s0) (by rw [dgSm];exact d0) (by rw [dgSm,dg_deriv];omega) (hc.scale (by grind) (by grind) e1 f1);refine .inr ⟨h1,smallF s,smallF (derivF s),l,k,m*(1 / k),i2,i2 ▸ i1,k0,e1,Rat.mul_pos m0 k1,fun x=>?_⟩
  have hd:evR (derivF (smallF s)) x=evR (derivF s) x*k:=by
   rw [deriv_prod (p:=s) (q:=[k]) (fun x=>by rw [ev_const];exact e1 x),ev_const];have z:evR (derivF [k]) x=0:=dgz (by rw [dg_deriv];have:=dg_len [k];simp at this;omega) x;rw [z];grind
  rw [f1,hd]
  have:=inv_ne (show k≠0 by grind)
  generalize 1 / k=k' at *;have e3:m*k'*(evR (derivF s) x*k)=m*evR (derivF s) x*(k*k'):=by grind
  rw [e3,this];grind
 ·refine .inl ⟨by omega,smallF s,?_,co (smallF s) 0,?_,fun x=>ev_dg1 (by rw [dgSm];omega) x⟩
  ·rw [small_nil (p:=derivF s) (by rw [dg_deriv];omega)]
   exact chain_one _ (ne_of_dg (by rw [dgSm];exact s0))
  ·intro z
   have:=dg_of_zero (p:=smallF s) fun x=>by rw [ev_dg1 (by rw [dgSm];omega) x,z]
   rw [dgSm] at this;omega
def tw (k:Nat):Rat:=((2 ^ k:Nat):Rat)
theorem tw_add (a b:Nat):tw (a+b)=tw a*tw b:=by unfold tw;rw [Nat.pow_add,Rat.natCast_mul]
theorem tw_mono {a b:Nat} (h:a≤b):tw a≤tw b:=Rat.natCast_le_natCast.2 (Nat.pow_le_pow_right (by decide) h)
theorem tw_pos (a:Nat):1≤tw a:=by
 have:tw 0=1:=rfl
 rw [←this];exact tw_mono (Nat.zero_le _)
theorem tw_succ (a:Nat):tw (a+1)=tw a*2:=by rw [tw_add];rfl
theorem mul_le' {a b c d:Rat} (h1:a≤b) (h2:c≤d) (h3:0≤a) (h4:0≤c):a*c≤b*d:=by
 have e1:=Rat.mul_nonneg (show 0≤b - a by grind) h4;have e2:=Rat.mul_nonneg (show 0≤b by grind) (show 0≤d - c by grind)
 grind
theorem pow_zero_of {a:Rat}:∀k:Nat,a ^ (k+1)=0→a=0
 | 0,h=>by
  rw [Rat.pow_succ,Rat.pow_zero] at h
  grind
 | k+1,h=>by
  rw [Rat.pow_succ] at h
  rcases Rat.mul_eq_zero.1 h with h|h
  ·exact pow_zero_of k h
  ·exact h
theorem prodE_zero (x:Rat):∀(l:List (List Rat)) (k:Nat),prodE k l x=0→∃P ∈ l,evR P x=0
 | [],k,h=>by
  exfalso
  have:(1:Rat)=0:=h
  exact absurd this (by decide)
 | P :: l,k,h=>by
  have h1:evR P x ^ (k+1)*prodE (k+1) l x=0:=h
  rcases Rat.mul_eq_zero.1 h1 with h2|h2
  ·exact⟨P,List.mem_cons_self ..,pow_zero_of k h2⟩
  ·obtain⟨Q,hQ,h3⟩:=prodE_zero x l (k+1) h2
   exact⟨Q,List.mem_cons_of_mem _ hQ,h3⟩
theorem root_simple {p:List Rat} (h0:0<dgF p) (x:Rat):evR p x=0↔evR (simpleF p) x=0:=by
 have m0:0<dgF (monicF p):=by rw [dg_mon];exact h0
 have hm:=mo_mon p;have ht:=top_trim_ne (trim_ne h0);have hs:=simple_ev h0 x
 constructor
 ·intro h
  have h1:evR (monicF p) x=0:=by rw [mon_ev h0,h];grind
  obtain⟨-,i2,-,i4⟩:=yun_loop ((monicF p).length+1) (p.length+1) (monicF p) (baseP (monicF p)) (divF (derivF (monicF p)) (nextP (monicF p))).1 hm m0 (base_ev m0) (quo_dv (nextP_pos m0) (nextP_dv _).2) (quo_trim _ _) (by have:=hm.len;omega) (by have:=hm.len;have:=monic_len p;omega);have h2:=i4 0 x;rw [Rat.pow_zero,h1] at h2;obtain⟨P,hP,h3⟩:=prodE_zero x _ 0 (by rw [h2];grind);obtain⟨u,hu⟩:=(i2 P hP).2.2.2;rw [hs,hu,h3];grind
 ·intro h
  have e:evR p x=evR (nextP p) x*evR (simpleF p) x:=quo_dv (nextP_pos h0) (nextP_dv p).1 x;rw [e,h];grind
theorem atF_zero {x:Rat} {p:List Rat}:atF x p=0↔evR p x=0:=by
 rcases at_cases x p with ⟨h1,h2⟩|⟨h1,h2⟩|⟨h1,h2⟩
 ·exact⟨fun _=>h2,fun _=>h1⟩
 ·constructor
  ·intro h;rw [h1] at h;cases h
  ·intro h;rw [h] at h2;exact absurd h2 (by decide)
 ·constructor
  ·intro h;rw [h1] at h;cases h
  ·intro h;rw [h] at h2;exact absurd h2 (by decide)
theorem vF_const {c:List Rat} {k:Rat} (hk:k≠0) (h:∀x,evR c x=k) (x y:Rat):vF [c] x=vF [c] y:=by
 have e:∀x,vF [c] x=0:=fun x=>by
  show flipsU 0 [atF x c]=0
  rw [flips_cons]
  rcases at_cases x c with ⟨e,-⟩|⟨e,-⟩|⟨e,-⟩ <;> rw [e] <;> rfl
 rw [e,e]
theorem between_v (c:List (List Rat)) (x y:Rat):betweenF c x y=vF c x - vF c y:=rfl
theorem between_add (c:List (List Rat)) (x m y:Rat):betweenF c x m+betweenF c m y=betweenF c x y:=by
 rw [between_v,between_v,between_v];omega
theorem count_pos {p:List Rat} (h0:0<dgF p) {x y:Rat} (h:x≤y):0≤betweenF (ownF p) x y:=by
 rw [between_v]
 rcases own_chain h0 with ⟨-,c,e,k,hk,hc⟩|⟨-,p0,q,l,k,μ,e,hc,-,-,hμ,hq⟩
 ·rw [e,vF_const hk hc x y];omega
 ·rw [e]
  have:=v_down hc hμ hq h
  omega
theorem Fx.scale {s k a b:Rat} {p q:List Rat} (h:Fx s p a b) (hk:0<k) (e:∀x,evR q x=evR p x*k):Fx s q a b:=fun x h1 h2=>by
 have:=Rat.mul_pos (h x h1 h2) hk
 rw [e];grind
theorem Up.scale {s k a b:Rat} {p q:List Rat} (h:Up s p a b) (hk:0<k) (e:∀x,evR q x=evR p x*k):Up s q a b:=fun x y h1 h2 h3=>by
 have:=Rat.mul_pos (show 0<s*evR p y - s*evR p x by have:=h x y h1 h2 h3;grind) hk
 rw [e,e];grind
theorem count_fix {p:List Rat} (h0:0<dgF p) {x y s:Rat} (h:x≤y) (hs:Pm s) (hf:Fx s (simpleF p) x y):betweenF (ownF p) x y=0:=by
 rw [between_v]
 rcases own_chain h0 with ⟨-,c,e,k,hk,hc⟩|⟨-,p0,q,l,k,μ,e,hc,hk,hp0,hμ,hq⟩
 ·rw [e,vF_const hk hc x y];omega
 ·rw [e]
  have:=v_fix hc hμ hq h hs (hf.scale hk hp0)
  omega
end Go.Proofs.YtkoaakefgacokaaGreatDoor
