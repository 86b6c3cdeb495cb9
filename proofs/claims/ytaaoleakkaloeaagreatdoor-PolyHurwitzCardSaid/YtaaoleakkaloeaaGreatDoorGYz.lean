/- What the rows' lists give at the seat of the Poly laws: the table of powers of ten. Two polynomials without a common divisor are not both small: how small, told by their numbers. On a piece of a told length a polynomial without multiple factors keeps its sign, or rises, or falls. How great the numbers of square-free parts are, on both ways to them. How great the numbers are that PolyDivides looks at. What own's chain counts: never less than nothing, at most one on a short piece. Roots by halving: the tree of halves, and that it ends. The numbers of Sturm's chain of a polynomial without multiple factors are small. What the law PolyRing needs beside the contracts. Roots: all that it looks at is small, and it ends, for every polynomial that the laws admit. What Roots returns, for every polynomial that the laws admit. What the spans of roots tell: where no root is, the chain counts none; the spans lie in order, and finer ones within. What PolyIsolates needs of the spans of roots. What the laws on roots need beside the contracts: lists of at most 14 numbers, Bound. -/
import Derived.Test.YtaaoleakkaloeaaGreatDoorGYy
import Derived.Test.YtaaoleakkaloeaaGreatDoorGYh
import Derived.Test.YtaaoleakkaloeaaGreatDoorCards
import Derived.Test.YtaaoleakkaloeaaGreatDoorTie
import Derived.WalkKit
import Derived.ProofKit
import Derived.OpenShut
import Derived.MakeChecks
import Derived.Lay
import Derived.Deep.DeepHandedRow
import Derived.Lib.LaidU8
import Derived.Test.YtaaoleakkaloeaaGreatDoorGJd
import Derived.Test.YtaaoleakkaloeaaGreatDoorGJc
import Derived.Test.YtaaoleakkaloeaaGreatDoorGYa
import Derived.Test.YtaaoleakkaloeaaGreatDoorGYp
import Derived.Test.YtaaoleakkaloeaaGreatDoorGYi
set_option linter.unusedVariables false
set_option maxRecDepth 100000
set_option maxHeartbeats 64000000
namespace Go.Proofs.YtaaoleakkaloeaaGreatDoor
open Go.ChangeShapes Go.WideShapes Go.ChangeAt Go.RowKit
theorem tensP {W:World} (h:Lib.VarReads Tryz.prog W "internal/strconv.uint64pow10" Rows.laid_internal_strconv_uint64pow10):Tens W:=by
 obtain⟨g,t,cs,fuel,p,hg,ht,hv,hd⟩:=h;have hg':Tryz.prog.globalNamed "internal/strconv.uint64pow10"=some 3:=by kernel_rfl
 obtain rfl:=Option.some.inj (hg'.symm.trans hg);have ht':(Tryz.prog.globals[(3:Nat)]?).map (·.type)=some 190:=by kernel_rfl
 obtain rfl:=Option.some.inj (ht'.symm.trans ht);have e:(Rows.laid_internal_strconv_uint64pow10:DataW Unit)=Lib.tabData .u64 Lib.pow10Tab:=by kernel_rfl
 rw [e] at hd;unfold Tens Lib.TabIs;rw [hv,←Lib.cells_of_tab Tryz.underlying190 Tryz.underlying98 (by kernel_rfl) (by kernel_rfl) hd]
theorem tensP_of {W:World} {l:List (String × DataW Unit)} (h:laidMetH Tryz.prog l W) (hp:(l.all fun x=>x.2.handleName?.isNone)=true) (h1:("internal/strconv.uint64pow10",Rows.laid_internal_strconv_uint64pow10) ∈ l):Tens W:=by
 rw [MakeChecks.laidMetH_plain _ _ _ hp] at h;exact tensP (Lib.laidMet.reads h h1)
end Go.Proofs.YtaaoleakkaloeaaGreatDoor
set_option linter.unusedVariables false
set_option maxRecDepth 100000
set_option maxHeartbeats 64000000
namespace Go.Proofs.YtaaoleakkaloeaaGreatDoor
set_option linter.unusedSimpArgs false
end Go.Proofs.YtaaoleakkaloeaaGreatDoor
set_option linter.unusedVariables false
set_option maxRecDepth 100000
set_option maxHeartbeats 64000000
namespace Go.Proofs.YtaaoleakkaloeaaGreatDoor
set_option linter.unusedSimpArgs false
def tw (k:Nat):Rat:=((2 ^ k:Nat):Rat)
theorem tw_add (a b:Nat):tw (a+b)=tw a*tw b:=by unfold tw;rw [Nat.pow_add,Rat.natCast_mul]
theorem tw_mono {a b:Nat} (h:a≤b):tw a≤tw b:=Rat.natCast_le_natCast.2 (Nat.pow_le_pow_right (by decide) h)
theorem tw_pos (a:Nat):1≤tw a:=by
 have:tw 0=1:=rfl
 rw [←this];exact tw_mono (Nat.zero_le _)
theorem tw_succ (a:Nat):tw (a+1)=tw a*2:=by rw [tw_add];rfl
end Go.Proofs.YtaaoleakkaloeaaGreatDoor
set_option linter.unusedVariables false
set_option maxRecDepth 100000
set_option maxHeartbeats 64000000
namespace Go.Proofs.YtaaoleakkaloeaaGreatDoor
set_option linter.unusedSimpArgs false
def bdF (a L:Nat):Nat:=2*a+23*L
theorem factor_dv {a L:Nat} {f p:List Rat} (hp:HF a p) (mp:Mo p) (mf:Mo f) (h:Dv f p) (hp0:0<dgF p) (hL:dgF p≤L) (h63:L≤63):HF (bdF a L) f:=by
 have f0:=(h.dg hp0).1;have e:=quo_dv f0 h;obtain⟨mh,-⟩:=mp.quo hp0 mf (quo_trim _ _) e;exact factor_hf hp e mf mh hp0 hL h63
theorem pow6 {L:Nat} (h:L≤63) {n:Nat} (k:n≤L):n≤2 ^ 6:=by omega
end Go.Proofs.YtaaoleakkaloeaaGreatDoor
set_option linter.unusedVariables false
set_option maxRecDepth 100000
set_option maxHeartbeats 64000000
namespace Go.Proofs.YtaaoleakkaloeaaGreatDoor
set_option linter.unusedSimpArgs false
end Go.Proofs.YtaaoleakkaloeaaGreatDoor
set_option linter.unusedVariables false
set_option maxRecDepth 100000
set_option maxHeartbeats 64000000
namespace Go.Proofs.YtaaoleakkaloeaaGreatDoor
set_option linter.unusedSimpArgs false
theorem vF_const {c:List Rat} {k:Rat} (hk:k≠0) (h:∀x,evR c x=k) (x y:Rat):vF [c] x=vF [c] y:=by
 have e:∀x,vF [c] x=0:=fun x=>by
  show flipsU 0 [atF x c]=0
  rw [flips_cons]
  rcases at_cases x c with ⟨e,-⟩|⟨e,-⟩|⟨e,-⟩ <;> rw [e] <;> rfl
 rw [e,e]
theorem between_v (c:List (List Rat)) (x y:Rat):betweenF c x y=vF c x - vF c y:=rfl
theorem count_pos {p:List Rat} (h0:0<dgF p) {x y:Rat} (h:x≤y):0≤betweenF (ownF p) x y:=by
 rw [between_v]
 rcases own_chain h0 with ⟨-,c,e,k,hk,hc⟩|⟨-,p0,q,l,k,μ,e,hc,-,-,hμ,hq⟩
 ·rw [e,vF_const hk hc x y];omega
 ·rw [e]
  have:=v_down hc hμ hq h
  omega
theorem Fx.scale {s k a b:Rat} {p q:List Rat} (h:Fx s p a b) (hk:0<k) (e:∀x,evR q x=evR p x*k):Fx s q a b:=fun x h1 h2=>by
 have:=Rat.mul_pos (h x h1 h2) hk
 rw [e];grind
theorem Up.scale {s k a b:Rat} {p q:List Rat} (h:Up s p a b) (hk:0<k) (e:∀x,evR q x=evR p x*k):Up s q a b:=fun x y h1 h2 h3=>by
 have:=Rat.mul_pos (show 0<s*evR p y - s*evR p x by have:=h x y h1 h2 h3;grind) hk
 rw [e,e];grind
end Go.Proofs.YtaaoleakkaloeaaGreatDoor
set_option linter.unusedVariables false
set_option maxRecDepth 100000
set_option maxHeartbeats 64000000
namespace Go.Proofs.YtaaoleakkaloeaaGreatDoor
set_option linter.unusedSimpArgs false
end Go.Proofs.YtaaoleakkaloeaaGreatDoor
set_option linter.unusedVariables false
set_option maxRecDepth 100000
set_option maxHeartbeats 64000000
namespace Go.Proofs.YtaaoleakkaloeaaGreatDoor
set_option linter.unusedSimpArgs false
theorem HF.flip {a:Nat} {p q:List Rat} {s:Rat} (h:HF a p) (hs:Pm s) (e:∀x,evR q x=s*evR p x):HF a q:=by
 obtain⟨D,n,h0,h1,h2⟩:=h
 have ec:∀i,co q i=co p i*s:=fun i=>by
  rw [ev_inj (p:=q) (q:=scaleF p s) (fun x=>by rw [e,ev_scaleF];grind),co_scaleF]
 rcases hs with rfl|rfl
 ·exact⟨D,n,h0,h1,fun i=>⟨by rw [ec,←(h2 i).1];grind,(h2 i).2⟩⟩
 ·exact⟨D,fun i=>-n i,h0,h1,fun i=>⟨by rw [ec,Rat.intCast_neg,←(h2 i).1];grind,by rw [Int.natAbs_neg];exact(h2 i).2⟩⟩
def Sg (u U:List Rat):Prop:=∃s,Pm s∧∀x,evR u x=s*evR U x
theorem Sg.dg {u U:List Rat} (h:Sg u U):dgF u=dgF U:=by
 obtain⟨s,hs,e⟩:=h;refine Nat.le_antisymm (dg_scale (c:=s) fun x=>by rw [e];grind) (dg_scale (c:=s) fun x=>?_);rw [e]
 have:=hs.sq
 have h2:s*evR U x*s=s*s*evR U x:=by grind
 rw [h2,this];grind
theorem Sg.hf {a:Nat} {u U:List Rat} (h:Sg u U) (k:HF a U):HF a u:=by
 obtain⟨s,hs,e⟩:=h;exact k.flip hs e
theorem small_sg (p:List Rat):Sg (smallF p) (monicF p):=by
 rcases Nat.eq_zero_or_pos (dgF p) with h|h
 ·rw [small_nil h,mon_nil h]
  exact⟨1,.inl rfl,fun x=>by show (0:Rat)=1*0;grind⟩
 ·have ht:=top_trim_ne (trim_ne h)
  have e:∀x,evR (smallF p) x=evR p x*(1 / absQ (topF (trimF p))):=fun x=>by
   unfold smallF;rw [if_neg (trim_ne h),ev_scaleF,ev_trim]
  rcases lt_or_le' (topF (trimF p)) 0 with g|g
  ·refine⟨-1,.inr rfl,fun x=>?_⟩
   rw [e,mon_ev h]
   have:absQ (topF (trimF p)) = -(topF (trimF p)):=by
    unfold absQ;rw [if_pos]
    have:=num_pos' (show 0 < -(topF (trimF p)) by grind)
    rw [Rat.neg_num] at this;omega
   rw [this];have a1:=inv_ne ht;have a2:=inv_ne (show -(topF (trimF p))≠0 by grind);generalize topF (trimF p)=c at *;generalize 1 / c=w at *;generalize 1 / (-c)=u at *;have a3:u*(c*w) = -w*(-c*u):=by grind
   rw [a1,a2] at a3;have a4:u = -w:=by grind
   rw [a4];grind
  ·refine⟨1,.inl rfl,fun x=>?_⟩
   rw [e,mon_ev h]
   have:absQ (topF (trimF p))=topF (trimF p):=by
    unfold absQ;rw [if_neg]
    have:=Rat.num_nonneg.2 g
    omega
   rw [this];grind
theorem Sg.mon {u U:List Rat} (h:Sg u U):monicF u=monicF U:=by
 obtain⟨s,hs,e⟩:=h
 have h2:∀x,evR U x=evR u x*s:=fun x=>by
  rw [e]
  have:=hs.sq
  have h3:s*evR U x*s=s*s*evR U x:=by grind
  rw [h3,this];grind
 exact(mo_mon u).uniq (mo_mon U) (((mon_dv u).1.trans ⟨[s],fun x=>by rw [ev_const,h2]⟩).trans (mon_dv U).2) (((mon_dv U).1.trans ⟨[s],fun x=>by rw [ev_const,e];grind⟩).trans (mon_dv u).2)
theorem next_sg {u v U V:List Rat} (hu:Sg u U) (hv:Sg v V) (hV:0<dgF V):Sg (smallF (scaleF (divF u v).2 (-1))) (monicF (divF U V).2):=by
 have hv0:0<dgF v:=by rw [hv.dg];exact hV
 obtain⟨d1,d2,d3⟩:=div_ev u v hv0;obtain⟨f1,f2,f3⟩:=div_ev U V hV;obtain⟨s,hs,es⟩:=hu;obtain⟨t,ht,et⟩:=hv
 have hr:∀x,evR (divF u v).2 x=s*evR (divF U V).2 x:=by
  have h1:Dv v (subF (divF u v).2 (scaleF (divF U V).2 s)):=⟨subF (scaleF (divF U V).1 (s*t)) (divF u v).1,fun x=>by
   rw [ev_subF,ev_scaleF,ev_subF,ev_scaleF];have g1:=d1 x;have g2:=f1 x;have g3:=es x;have g4:=et x;have g5:=ht.sq;have g6:evR v x*(evR (divF U V).1 x*(s*t))=s*evR (divF U V).1 x*(t*t*evR V x):=by rw [g4];grind
   rw [g5] at g6;have g7:evR v x*(evR (divF U V).1 x*(s*t) - evR (divF u v).1 x)=evR v x*(evR (divF U V).1 x*(s*t)) - evR (divF u v).1 x*evR v x:=by grind
   rw [g7,g6];rw [g3,g2] at g1
   grind⟩
  have h2:dgF (subF (divF u v).2 (scaleF (divF U V).2 s))≤dgF v - 1:=dg_sub (fun x=>ev_subF _ _ x) (by have:=div_dg u v hv0;omega) (Nat.le_trans (dg_scale fun x=>ev_scaleF _ _ x) (by
   have h3:=div_dg U V hV;have h4:dgF v=dgF V:=Sg.dg ⟨t,ht,et⟩
   omega))
  have h3:=h1.small (by omega);intro x
  have:=dgz h3 x
  rw [ev_subF,ev_scaleF] at this
  grind
 have h4:Sg (scaleF (divF u v).2 (-1)) (divF U V).2:=⟨-s,hs.neg,fun x=>by rw [ev_scaleF,hr];grind⟩;have h5:=small_sg (scaleF (divF u v).2 (-1));rw [h4.mon] at h5;exact h5
theorem chB_hf {H M N:Nat} {p q:List Rat} {a w:Nat} (mp:Mo p) (mq:Mo q) (hp:HF a p) (hq:HF a q) (hw:dgF p+dgF q+2≤2 ^ w) (hH:(a+w+2)*(dgF p+dgF q+2)≤H) (hN:dgF p≤N) (hN2:dgF q≤N) (hM:H+N*(H+1)≤M):∀(n:Nat) (u v U V:List Rat),Sg u U→Sg v V→InC p q U V→HF H U→Mo V→dgF U≤N→dgF V<n→trimF v=v→trimF u=u→chB M n u v=true∧∀l ∈ chainU n u v,HF H l∧dgF l≤N∧trimF l=l
 | 0,u,v,U,V,_,_,_,_,_,_,h,_,_=>by omega
 | n+1,u,v,U,V,su,sv,hi,hU,mV,hNU,hn,tv,tu=>by
  have hVH:=hf_mo hi hp hq hw hH;have huH:=su.hf hU;have hvH:=sv.hf hVH;have hdu:dgF u≤N:=by rw [su.dg];exact hNU
  have hle:dgF V≤N:=by
   rcases hi with ⟨rfl,rfl⟩|h
   ·exact hN2
   ·have:=h.dg;omega
  by_cases h0:u=[]
  ·subst h0
   refine⟨rfl,fun l hl=>?_⟩
   have:chainU (n+1) [] v=[]:=if_pos rfl
   rw [this] at hl;cases hl
  rcases Nat.eq_zero_or_pos (dgF V) with hV|hV
  ·have hv0:v=[]:=by
    have:dgF v=0:=by rw [sv.dg];exact hV
    unfold dgF at this;rw [tv] at this;exact List.length_eq_zero_iff.1 this
   subst hv0;refine⟨?_,fun l hl=>?_⟩
   ·show (u.isEmpty || ([]:List Rat).isEmpty || _)=true
    simp
   ·rw [chain_one n h0] at hl
    rw [List.mem_singleton.1 hl];exact⟨huH,hdu,tu⟩
  ·have hv0:0<dgF v:=by rw [sv.dg];exact hV
   have hvne:v≠[]:=ne_of_dg hv0;have k:=div_hf (N:=N) (M:=M) huH hvH hv0 hdu hM (by omega);have hd:=div_dg U V hV;obtain⟨i1,i2⟩:=chB_hf mp mq hp hq hw hH hN hN2 hM n v (smallF (scaleF (divF u v).2 (-1))) V (monicF (divF U V).2) sv (next_sg su sv hV) (hi.next hV) hVH (mo_mon _) hle (by rw [dg_mon];omega) (small_trim _) tv;refine⟨?_,fun l hl=>?_⟩
   ·show (u.isEmpty || v.isEmpty || (divOk M u v && smB M (divF u v).2 && chB M n v (smallF (scaleF (divF u v).2 (-1)))))=true
    rw [k.1,k.2.2.sm (Nat.le_refl _),i1];simp
   ·rw [chain_two n h0 hvne] at hl
    rcases List.mem_cons.1 hl with rfl|hl
    ·exact⟨huH,hdu,tu⟩
    ·exact i2 l hl
theorem chain_hf {a w N H M:Nat} {p q:List Rat} (hp:HF a p) (hq:HF a q) (hN:dgF p≤N) (hN2:dgF q≤N) (hw:2*N+2≤2 ^ w) (hH:(a+w+2)*(2*N+2)≤H) (hM:H+N*(H+1)≤M):chainOk M p q=true∧∀l ∈ chainF p q,HF H l∧dgF l≤N∧trimF l=l:=by
 have ha:a≤H:=by
  have:(a+w+2)*1≤(a+w+2)*(2*N+2):=Nat.mul_le_mul_left _ (by omega)
  omega
 have h2:(a+w+2)*(dgF (monicF p)+dgF (monicF q)+2)≤(a+w+2)*(2*N+2):=Nat.mul_le_mul_left _ (by rw [dg_mon,dg_mon];omega);have dl:=dg_len q;obtain⟨k1,k2⟩:=chB_hf (H:=H) (M:=M) (N:=N) (mo_mon p) (mo_mon q) hp.monic hq.monic (by rw [dg_mon,dg_mon];omega) (Nat.le_trans h2 hH) (by rw [dg_mon];exact hN) (by rw [dg_mon];exact hN2) hM (p.length+q.length+2) (smallF p) (smallF q) (monicF p) (monicF q) (small_sg p) (small_sg q) (.inl ⟨rfl,rfl⟩) (hp.monic.mono ha) (mo_mon q) (by rw [dg_mon];exact hN) (by rw [dg_mon];omega) (small_trim q) (small_trim p);refine⟨?_,k2⟩;unfold chainOk;rw [k1,hp.sm (by omega),hq.sm (by omega)];rfl
end Go.Proofs.YtaaoleakkaloeaaGreatDoor
set_option linter.unusedVariables false
set_option maxRecDepth 100000
set_option maxHeartbeats 64000000
namespace Go.Proofs.YtaaoleakkaloeaaGreatDoor
open Go Go.RowKit
set_option linter.unusedSimpArgs false
def Px (w:World) (v:Value) (p:List Rat) (N M:Nat):Prop:=Pl w v p∧p.length≤N∧∀x ∈ p,Bq M x
theorem Px.mono {w w':World} {v:Value} {p:List Rat} {N M:Nat} (h:Px w v p N M) (k:Ext w w'):Px w' v p N M:=⟨h.1.mono k,h.2⟩
theorem Px.up {w:World} {v:Value} {p:List Rat} {N M N' M':Nat} (h:Px w v p N M) (hN:N≤N') (hM:M≤M'):Px w v p N' M':=⟨h.1,Nat.le_trans h.2.1 hN,fun x hx=>(h.2.2 x hx).mono hM⟩
theorem lt_of_block' {W:World} {k:Nat} {o:Obj} (h:W.heap[k]?=some o):k<W.heap.size:=(Array.getElem?_eq_some_iff.1 h).1
structure RgS (W0 W:World) (ks:List (Nat × Obj)) (ns:List (Value × Rat)):Prop where
 ext:Ext W0 W
 keep:∀p ∈ ks,W0.heap.size≤p.1∧W.heap[p.1]?=some p.2
 nn:∀y ∈ ns,Nm W y.1 y.2
theorem RgS.start (W:World):RgS W W [] []:=⟨ae _,(fun p hp=>by cases hp),(fun p hp=>by cases hp)⟩
theorem RgS.mono {W0 W W':World} {ks:List (Nat × Obj)} {ns:List (Value × Rat)} (h:RgS W0 W ks ns) (k:Ext W W'):RgS W0 W' ks ns:=
 ⟨ak h.ext k,(fun p hp=>⟨(h.keep p hp).1,(k.block _ (lt_of_block' (h.keep p hp).2)).trans (h.keep p hp).2⟩),(fun y hy=>(h.nn y hy).mono k)⟩
theorem RgS.alloc {W0 W:World} {ks:List (Nat × Obj)} {ns:List (Value × Rat)} (h:RgS W0 W ks ns) (o:Obj):RgS W0 (W.alloc o) ((W.heap.size,o) :: ks) ns:=by
 have hm:=h.mono (ab W o);refine⟨hm.ext,fun p hp=>?_,hm.nn⟩
 rcases List.mem_cons.1 hp with rfl|hp
 ·exact⟨h.ext.size,heap_alloc_new _ _⟩
 ·exact hm.keep p hp
theorem RgS.num {W0 W:World} {ks:List (Nat × Obj)} {ns:List (Value × Rat)} {v:Value} {q:Rat} (h:RgS W0 W ks ns) (hq:Nm W v q):RgS W0 W ks ((v,q) :: ns):=
 ⟨h.ext,h.keep,fun y hy=>by
  rcases List.mem_cons.1 hy with rfl|hy
  ·exact hq
  ·exact h.nn y hy⟩
theorem RgS.sub {W0 W:World} {ks ks':List (Nat × Obj)} {ns:List (Value × Rat)} (h:RgS W0 W ks ns) (hs:∀p ∈ ks',p ∈ ks):RgS W0 W ks' ns:=⟨h.ext,(fun p hp=>h.keep p (hs p hp)),h.nn⟩
theorem RgS.put {W0 W:World} {ks:List (Nat × Obj)} {ns:List (Value × Rat)} {g:Nat} {s:Bool} {A B:Option Addr} {k ca l cb:Nat} {T:TypeId} (h:RgS W0 W ks ns) (hg:(g,.cells #[.bool s,.slice A k ca,.slice B l cb] T) ∈ ks) (a b c:Value):RgS W0 (put3at W g 0 a b c) (ks.map fun p=>if p.1=g then (g,.cells #[a,b,c] T) else p) ns:=by
 obtain⟨hge,hr⟩:=h.keep _ hg;refine⟨((h.ext.setCell hge _).setCell hge _).setCell hge _,fun p hp=>?_,fun y hy=>nm_put3b (h.nn y hy) hr a b c⟩;obtain⟨p0,h0,rfl⟩:=List.mem_map.1 hp
 by_cases hpg:p0.1=g
 ·rw [if_pos hpg];exact⟨hge,put3b_row hr a b c⟩
 ·rw [if_neg hpg];exact⟨(h.keep p0 h0).1,(put3b_other a b c hpg).trans (h.keep p0 h0).2⟩
section
variable {P:Program} {md:Region.Mode} {ops:Array Oper} {Q:Exit→Act→World→Prop} {S:World→Prop}
end
theorem RgS.put6 {W0 W:World} {ks:List (Nat × Obj)} {ns:List (Value × Rat)} {g:Nat} {s:Bool} {A:Option Addr} {k ca:Nat} {B:Option Addr} {l cb:Nat} {s':Bool} {A':Option Addr} {k' ca':Nat} {B':Option Addr} {l' cb':Nat} {T:TypeId} (h:RgS W0 W ks ns) (hg:(g,.cells #[.bool s,.slice A k ca,.slice B l cb,.bool s',.slice A' k' ca',.slice B' l' cb'] T) ∈ ks) (a b c d e f:Value):RgS W0 (Proofs.YtaaoleakkaloeaaGreatDoor.put6 W g a b c d e f) (ks.map fun p=>if p.1=g then (g,.cells #[a,b,c,d,e,f] T) else p) ns:=by
 obtain⟨hge,hr⟩:=h.keep _ hg;refine⟨af h.ext hge ..,fun p hp=>?_,fun y hy=>(h.nn y hy).put6 hr ..⟩;obtain⟨p0,h0,rfl⟩:=List.mem_map.1 hp
 by_cases hpg:p0.1=g
 ·rw [if_pos hpg];exact⟨hge,ag hr ..⟩
 ·rw [if_neg hpg];exact⟨(h.keep p0 h0).1,(put6_oth _ _ _ _ _ _ hpg).trans (h.keep p0 h0).2⟩
end Go.Proofs.YtaaoleakkaloeaaGreatDoor
set_option linter.unusedVariables false
set_option maxRecDepth 100000
set_option maxHeartbeats 64000000
namespace Go.Proofs.YtaaoleakkaloeaaGreatDoor
set_option linter.unusedSimpArgs false
def bdS (a L:Nat):Nat:=bdF a L+a
def bdO (a L:Nat):Nat:=(bdS a L+6+9)*(2*L+2)+L*((bdS a L+6+9)*(2*L+2)+1)
theorem simple_hf {a L:Nat} {p:List Rat} (hp:HF a p) (h0:0<dgF p) (hL:dgF p≤L) (h63:L≤63):HF (bdS a L) (simpleF p):=by
 have m0:0<dgF (monicF p):=by rw [dg_mon];exact h0
 have mL:dgF (monicF p)≤L:=by rw [dg_mon];exact hL
 have hb:=factor_dv hp.monic (mo_mon p) (base_mo (mo_mon p) m0).1 ⟨nextP (monicF p),fun x=>by rw [base_ev m0];grind⟩ m0 mL h63
 have hbt:Bq a (topF (trimF p)):=by
  refine hp.trim.bq _ ?_;have h1:0<(trimF p).length:=h0;unfold topF co;rw [List.getElem?_eq_getElem (by omega)];exact List.getElem_mem _
 exact(hb.scale hbt).eqv (ev_inj fun x=>by rw [simple_ev h0,ev_scaleF])
theorem own_ok {a L M:Nat} {p:List Rat} (hp:HF a p) (h0:0<dgF p) (hL:dgF p≤L) (h63:L≤63) (hM:bdO a L≤M):ownOk M p=true:=by
 have hs:=simple_hf hp h0 hL h63;obtain⟨s0,st,sd⟩:=simple_dg h0;have hs':HF (bdS a L+6) (derivF (simpleF p)):=hs.deriv (v:=6) (pow6 h63 (by omega));have hp':HF (a+6) (derivF p):=hp.deriv (v:=6) (pow6 h63 hL);have dd:=dg_deriv p;have ds:=dg_deriv (simpleF p);have ha:a≤bdS a L:=by unfold bdS;omega
 have k1:=(com_hf (a:=bdS a L+6) (w:=7) (N:=L) (H:=(bdS a L+6+9)*(2*L+2)) (M:=M) (hp.mono (by omega)) (hp'.mono (by omega)) hL (by omega) (by omega) (Nat.le_refl _) hM).1;have m0:0<dgF (monicF p):=by rw [dg_mon];exact h0
 have fq:=factor_dv hp.monic (mo_mon p) (nextP_mo p) ((nextP_dv p).1.trans (mon_dv p).2) m0 (by rw [dg_mon];exact hL) h63
 have hbig:bdS a L+6≤(bdS a L+6+9)*(2*L+2):=by
  have:(bdS a L+6+9)*1≤(bdS a L+6+9)*(2*L+2):=Nat.mul_le_mul_left _ (by omega)
  omega
 have hbM:(bdS a L+6+9)*(2*L+2)+L*(bdF a L+1)≤M:=by
  have h1:L*(bdF a L+1)≤L*((bdS a L+6+9)*(2*L+2)+1):=Nat.mul_le_mul_left _ (by unfold bdS at hbig ⊢;omega);unfold bdO at hM;omega
 have hFS:bdF a L≤bdS a L:=by unfold bdS;omega
 have k2:=(div_hf (N:=L) (M:=M) hp fq (nextP_pos h0) hL (by omega) (by omega)).1;have k3:=chain_hf (a:=bdS a L+6) (w:=7) (N:=L) (H:=(bdS a L+6+9)*(2*L+2)) (M:=M) (hs.mono (by omega)) hs' (by omega) (by omega) (by omega) (Nat.le_refl _) hM;have hHM:(bdS a L+6+9)*(2*L+2)≤M:=by unfold bdO at hM;omega
 have k4:cB M (ownF p)=true:=by
  refine List.all_eq_true.2 fun l hl=>?_;obtain⟨f1,f2,f3⟩:=k3.2 l hl;rw [f1.sm hHM,Bool.true_and]
  have:dgF l=l.length:=by unfold dgF;rw [f3]
  exact decide_eq_true (by omega)
 have k5:(!(trimF (commonF p (derivF p))).isEmpty)=true:=by
  have:=trim_ne (nextP_pos h0)
  cases h9:trimF (commonF p (derivF p)) with
  | nil=>exact absurd h9 this
  | cons x l=>rfl
 unfold ownOk simpleOk;rw [hp.sm (by omega),k1,k5,show divOk M p (commonF p (derivF p))=true from k2,hs.sm (by omega),k3.1,k4];rfl
def Gr (b j:Nat) (x:Rat):Prop:=Ab (tw b) x∧∃z:Int,x*tw j=(z:Rat)
theorem Gr.up {b j:Nat} {x:Rat} (h:Gr b j x):Gr b (j+1) x:=by
 obtain⟨h1,z,h2⟩:=h;refine⟨h1,z*2,?_⟩;rw [tw_succ,Rat.intCast_mul,←h2]
 show x*(tw j*2)=x*tw j*2
 grind
theorem Gr.bq {b j:Nat} {x:Rat} (h:Gr b j x):Bq (b+j+1) x:=by
 obtain⟨h1,z,h2⟩:=h
 have hz:Ab (tw (b+j)) (z:Rat):=by
  rw [←h2,tw_add];exact h1.mul ⟨by have:=tw_pos j;grind,Rat.le_refl⟩
 have q1:=hz.1;have q2:=hz.2
 have e1:z≤((2 ^ (b+j):Nat):Int):=by
  apply Rat.intCast_le_intCast.1
  rw [Rat.intCast_natCast];exact q2
 have e2:-((2 ^ (b+j):Nat):Int)≤z:=by
  apply Rat.intCast_le_intCast.1
  rw [Rat.intCast_neg,Rat.intCast_natCast];exact q1
 have hp:2 ^ (b+j)<2 ^ (b+j+1):=Nat.pow_lt_pow_right (by decide) (by omega);have hj:2 ^ j≤2 ^ (b+j):=Nat.pow_le_pow_right (by decide) (by omega);have hj0:0<2 ^ j:=Nat.pow_pos (by decide);refine bq_of_mul (D:=((2 ^ j:Nat):Int)) (n:=z) (by omega) (by rw [Rat.intCast_natCast];exact h2) (by rw [Int.natAbs_natCast];omega) (by omega)
end Go.Proofs.YtaaoleakkaloeaaGreatDoor
set_option linter.unusedVariables false
set_option maxRecDepth 100000
set_option maxHeartbeats 64000000
namespace Go.Proofs.YtaaoleakkaloeaaGreatDoor
set_option linter.unusedSimpArgs false
end Go.Proofs.YtaaoleakkaloeaaGreatDoor
set_option linter.unusedVariables false
set_option maxRecDepth 100000
set_option maxHeartbeats 64000000
namespace Go.Proofs.YtaaoleakkaloeaaGreatDoor
set_option linter.unusedSimpArgs false
theorem Pm.mul {s t:Rat} (h:Pm s) (k:Pm t):Pm (s*t):=by
 rcases h with rfl|rfl <;> rcases k with rfl|rfl
 ·exact .inl (by grind)
 ·exact .inr (by grind)
 ·exact .inr (by grind)
 ·exact .inl (by grind)
end Go.Proofs.YtaaoleakkaloeaaGreatDoor
set_option linter.unusedVariables false
set_option maxRecDepth 100000
set_option maxHeartbeats 64000000
namespace Go.Proofs.YtaaoleakkaloeaaGreatDoor
set_option linter.unusedSimpArgs false
end Go.Proofs.YtaaoleakkaloeaaGreatDoor
set_option linter.unusedVariables false
set_option maxRecDepth 100000
set_option maxHeartbeats 64000000
namespace Go.Proofs.YtaaoleakkaloeaaGreatDoor
open Go Go.RowKit
set_option linter.unusedSimpArgs false
theorem list_14 (v:Value) (ls:List (List UInt8)) (w:World) (h:Stl w v ls) (hn:ls.length≤14):Calls Tryz.prog 8 #[v] w fun e w'=>∃va vx,e=.returned (.tuple #[va,vx])∧Px w' va (listF ls) 14 4001∧Ext w w':=by
 refine(list_n v ls (by omega) w h).mono ?_;rintro e w' ⟨va,vx,rfl,hp,hr,k⟩;refine⟨va,vx,rfl,⟨hp,by unfold listF;rw [List.length_map];exact hn,fun x hx=>?_⟩,k⟩;unfold listF at hx;obtain⟨s,-,rfl⟩:=List.mem_map.1 hx;exact au s
end Go.Proofs.YtaaoleakkaloeaaGreatDoor
