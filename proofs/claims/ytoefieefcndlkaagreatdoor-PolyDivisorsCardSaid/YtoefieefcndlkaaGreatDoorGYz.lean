/- What the rows' lists give at the seat of the Poly laws: the table of powers of ten. What the law PolyRing needs beside the contracts. A polynomial with small values at many whole numbers has small numbers; so a factor has. How great the numbers of square-free parts are, on both ways to them. How great the numbers are that PolyDivides looks at. -/
import Derived.Test.YtoefieefcndlkaaGreatDoorGYy
import Derived.Test.YtoefieefcndlkaaGreatDoorGVx
import Derived.Test.YtoefieefcndlkaaGreatDoorCards
import Derived.Test.YtoefieefcndlkaaGreatDoorTie
import Derived.WalkKit
import Derived.ProofKit
import Derived.OpenShut
import Derived.MakeChecks
import Derived.Lay
import Derived.Deep.DeepHandedRow
import Derived.Lib.LaidU8
import Derived.Test.YtoefieefcndlkaaGreatDoorGHj
import Derived.Test.YtoefieefcndlkaaGreatDoorGQz
set_option linter.unusedVariables false
set_option maxRecDepth 100000
set_option maxHeartbeats 64000000
namespace Go.Proofs.YtoefieefcndlkaaGreatDoor
open Go.ChangeShapes Go.WideShapes Go.ChangeAt Go.RowKit
theorem tensP {W:World} (h:Lib.VarReads Tryz.prog W "internal/strconv.uint64pow10" Rows.laid_internal_strconv_uint64pow10):Tens W:=by
 obtain⟨g,t,cs,fuel,p,hg,ht,hv,hd⟩:=h;have hg':Tryz.prog.globalNamed "internal/strconv.uint64pow10"=some 3:=by kernel_rfl
 obtain rfl:=Option.some.inj (hg'.symm.trans hg);have ht':(Tryz.prog.globals[(3:Nat)]?).map (·.type)=some 216:=by kernel_rfl
 obtain rfl:=Option.some.inj (ht'.symm.trans ht);have e:(Rows.laid_internal_strconv_uint64pow10:DataW Unit)=Lib.tabData .u64 Lib.pow10Tab:=by kernel_rfl
 rw [e] at hd;unfold Tens Lib.TabIs;rw [hv,←Lib.cells_of_tab Tryz.underlying216 Tryz.underlying97 (by kernel_rfl) (by kernel_rfl) hd]
theorem tensP_of {W:World} {l:List (String × DataW Unit)} (h:laidMetH Tryz.prog l W) (hp:(l.all fun x=>x.2.handleName?.isNone)=true) (h1:("internal/strconv.uint64pow10",Rows.laid_internal_strconv_uint64pow10) ∈ l):Tens W:=by
 rw [MakeChecks.laidMetH_plain _ _ _ hp] at h;exact tensP (Lib.laidMet.reads h h1)
end Go.Proofs.YtoefieefcndlkaaGreatDoor
set_option linter.unusedVariables false
set_option maxRecDepth 100000
set_option maxHeartbeats 64000000
namespace Go.Proofs.YtoefieefcndlkaaGreatDoor
open Go Go.RowKit
set_option linter.unusedSimpArgs false
def Px (w:World) (v:Value) (p:List Rat) (N M:Nat):Prop:=Pl w v p∧p.length≤N∧∀x ∈ p,Bq M x
theorem Px.mono {w w':World} {v:Value} {p:List Rat} {N M:Nat} (h:Px w v p N M) (k:Ext w w'):Px w' v p N M:=⟨h.1.mono k,h.2⟩
theorem Px.up {w:World} {v:Value} {p:List Rat} {N M N' M':Nat} (h:Px w v p N M) (hN:N≤N') (hM:M≤M'):Px w v p N' M':=⟨h.1,Nat.le_trans h.2.1 hN,fun x hx=>(h.2.2 x hx).mono hM⟩
theorem lt_of_block' {W:World} {k:Nat} {o:Obj} (h:W.heap[k]?=some o):k<W.heap.size:=(Array.getElem?_eq_some_iff.1 h).1
structure RgS (W0 W:World) (ks:List (Nat × Obj)) (ns:List (Value × Rat)):Prop where
 ext:Ext W0 W
 keep:∀p ∈ ks,W0.heap.size≤p.1∧W.heap[p.1]?=some p.2
 nn:∀y ∈ ns,Nm W y.1 y.2
theorem RgS.start (W:World):RgS W W [] []:=⟨ae _,(fun p hp=>by cases hp),(fun p hp=>by cases hp)⟩
theorem RgS.mono {W0 W W':World} {ks:List (Nat × Obj)} {ns:List (Value × Rat)} (h:RgS W0 W ks ns) (k:Ext W W'):RgS W0 W' ks ns:=
 ⟨ak h.ext k,(fun p hp=>⟨(h.keep p hp).1,(k.block _ (lt_of_block' (h.keep p hp).2)).trans (h.keep p hp).2⟩),(fun y hy=>(h.nn y hy).mono k)⟩
theorem RgS.alloc {W0 W:World} {ks:List (Nat × Obj)} {ns:List (Value × Rat)} (h:RgS W0 W ks ns) (o:Obj):RgS W0 (W.alloc o) ((W.heap.size,o) :: ks) ns:=by
 have hm:=h.mono (ab W o);refine⟨hm.ext,fun p hp=>?_,hm.nn⟩
 rcases List.mem_cons.1 hp with rfl|hp
 ·exact⟨h.ext.size,heap_alloc_new _ _⟩
 ·exact hm.keep p hp
theorem RgS.num {W0 W:World} {ks:List (Nat × Obj)} {ns:List (Value × Rat)} {v:Value} {q:Rat} (h:RgS W0 W ks ns) (hq:Nm W v q):RgS W0 W ks ((v,q) :: ns):=
 ⟨h.ext,h.keep,fun y hy=>by
  rcases List.mem_cons.1 hy with rfl|hy
  ·exact hq
  ·exact h.nn y hy⟩
theorem RgS.sub {W0 W:World} {ks ks':List (Nat × Obj)} {ns:List (Value × Rat)} (h:RgS W0 W ks ns) (hs:∀p ∈ ks',p ∈ ks):RgS W0 W ks' ns:=⟨h.ext,(fun p hp=>h.keep p (hs p hp)),h.nn⟩
theorem RgS.put {W0 W:World} {ks:List (Nat × Obj)} {ns:List (Value × Rat)} {g:Nat} {s:Bool} {A B:Option Addr} {k ca l cb:Nat} {T:TypeId} (h:RgS W0 W ks ns) (hg:(g,.cells #[.bool s,.slice A k ca,.slice B l cb] T) ∈ ks) (a b c:Value):RgS W0 (put3at W g 0 a b c) (ks.map fun p=>if p.1=g then (g,.cells #[a,b,c] T) else p) ns:=by
 obtain⟨hge,hr⟩:=h.keep _ hg;refine⟨((h.ext.setCell hge _).setCell hge _).setCell hge _,fun p hp=>?_,fun y hy=>nm_put3b (h.nn y hy) hr a b c⟩;obtain⟨p0,h0,rfl⟩:=List.mem_map.1 hp
 by_cases hpg:p0.1=g
 ·rw [if_pos hpg];exact⟨hge,put3b_row hr a b c⟩
 ·rw [if_neg hpg];exact⟨(h.keep p0 h0).1,(put3b_other a b c hpg).trans (h.keep p0 h0).2⟩
section
variable {P:Program} {md:Region.Mode} {ops:Array Oper} {Q:Exit→Act→World→Prop} {S:World→Prop}
end
theorem RgS.put6 {W0 W:World} {ks:List (Nat × Obj)} {ns:List (Value × Rat)} {g:Nat} {s:Bool} {A:Option Addr} {k ca:Nat} {B:Option Addr} {l cb:Nat} {s':Bool} {A':Option Addr} {k' ca':Nat} {B':Option Addr} {l' cb':Nat} {T:TypeId} (h:RgS W0 W ks ns) (hg:(g,.cells #[.bool s,.slice A k ca,.slice B l cb,.bool s',.slice A' k' ca',.slice B' l' cb'] T) ∈ ks) (a b c d e f:Value):RgS W0 (Proofs.YtoefieefcndlkaaGreatDoor.put6 W g a b c d e f) (ks.map fun p=>if p.1=g then (g,.cells #[a,b,c,d,e,f] T) else p) ns:=by
 obtain⟨hge,hr⟩:=h.keep _ hg;refine⟨af h.ext hge ..,fun p hp=>?_,fun y hy=>(h.nn y hy).put6 hr ..⟩;obtain⟨p0,h0,rfl⟩:=List.mem_map.1 hp
 by_cases hpg:p0.1=g
 ·rw [if_pos hpg];exact⟨hge,ag hr ..⟩
 ·rw [if_neg hpg];exact⟨(h.keep p0 h0).1,(put6_oth _ _ _ _ _ _ hpg).trans (h.keep p0 h0).2⟩
end Go.Proofs.YtoefieefcndlkaaGreatDoor
set_option linter.unusedVariables false
set_option maxRecDepth 100000
set_option maxHeartbeats 64000000
namespace Go.Proofs.YtoefieefcndlkaaGreatDoor
set_option linter.unusedSimpArgs false
def evI:List Int→Int→Int
 | [],_=>0
 | a :: t,x=>evI t x*x+a
def synI (s:Int):List Int→List Int
 | []=>[]
 | [_]=>[]
 | _ :: b :: t=>evI (b :: t) s :: synI s (b :: t)
theorem synI_len (s:Int):∀p:List Int,(synI s p).length=p.length - 1
 | []=>rfl
 | [_]=>rfl
 | _ :: b :: t=>by
  show (synI s (b :: t)).length+1=_
  rw [synI_len s (b :: t)];simp
theorem evI_syn (s x:Int):∀p:List Int,evI p x=evI p s+(x - s)*evI (synI s p) x
 | []=>by show (0:Int)=0+(x - s)*0;grind
 | [a]=>by show (0*x+a:Int)=(0*s+a)+(x - s)*0;grind
 | a :: b :: t=>by
  have h:=evI_syn s x (b :: t)
  show evI (b :: t) x*x+a=(evI (b :: t) s*s+a)+(x - s)*(evI (synI s (b :: t)) x*x+evI (b :: t) s)
  generalize evI (b :: t) x=u at *;generalize evI (b :: t) s=v at *;generalize evI (synI s (b :: t)) x=z at *
  grind
theorem ci_syn0 (s a:Int) (t:List Int):ci (a :: t) 0=evI (a :: t) s - s*ci (synI s (a :: t)) 0:=by
 cases t with
 | nil=>show a=0*s+a - s*0;grind
 | cons b t=>show a=evI (b :: t) s*s+a - s*evI (b :: t) s;grind
theorem ci_syn (s:Int):∀(p:List Int) (i:Nat),ci p (i+1)=ci (synI s p) i - s*ci (synI s p) (i+1)
 | [],i=>by show (0:Int)=0 - s*0;grind
 | [a],i=>by show (0:Int)=0 - s*0;grind
 | a :: b :: t,0=>by
  show b=evI (b :: t) s - s*ci (synI s (b :: t)) 0
  have:=ci_syn0 s b t
  exact this
 | a :: b :: t,i+1=>ci_syn s (b :: t) i
theorem sub_abs {a b:Int} {A B:Nat} (ha:a.natAbs≤A) (hb:b.natAbs≤B):(a - b).natAbs≤A+B:=by
 have:=Int.natAbs_sub_le a b
 omega
theorem interp (X:Nat):∀(pts:List Nat) (p:List Int) (V:Nat),p.length≤pts.length→pts.Nodup→(∀x ∈ pts,x≤X)→(∀x ∈ pts,(evI p (x:Int)).natAbs≤V)→∀i,(ci p i).natAbs≤V*(2*X+3) ^ pts.length
 | [],p,V,hl,_,_,_,i=>by
  have:p=[]:=List.length_eq_zero_iff.1 (Nat.le_zero.1 hl)
  subst this;exact Nat.zero_le _
 | s :: pts,p,V,hl,hd,hX,hV,i=>by
  have hd':=List.nodup_cons.1 hd;have hs:=hV s (List.mem_cons_self ..);have hsX:=hX s (List.mem_cons_self ..)
  have ih:=interp X pts (synI (s:Int) p) (2*V) (by rw [synI_len];simp at hl;omega) hd'.2 (fun x hx=>hX x (List.mem_cons_of_mem _ hx)) (fun x hx=>by
   have h1:=hV x (List.mem_cons_of_mem _ hx);have h2:=evI_syn (s:Int) (x:Int) p;have h3:((x:Int) - (s:Int))*evI (synI (s:Int) p) (x:Int)=evI p (x:Int) - evI p (s:Int):=by omega
   have h4:=congrArg Int.natAbs h3;rw [Int.natAbs_mul] at h4;have h5:=sub_abs h1 hs
   have h6:0<((x:Int) - (s:Int)).natAbs:=by
    have:x≠s:=fun e=>hd'.1 (e ▸ hx)
    omega
   have h7:=Nat.le_mul_of_pos_left (evI (synI (s:Int) p) (x:Int)).natAbs h6
   omega)
  generalize hK:(2*X+3) ^ pts.length=K at ih;have hK1:1≤K:=by rw [←hK];exact Nat.pow_pos (by omega)
  have hVK:V≤V*K:=Nat.le_mul_of_pos_right V hK1
  have e:V*(2*X+3) ^ (s :: pts).length=2*(X*(V*K))+3*(V*K):=by
   rw [List.length_cons,Nat.pow_succ,hK];grind
  have hsm:∀z:Int,z.natAbs≤2*V*K→((s:Int)*z).natAbs≤2*(X*(V*K)):=fun z hz=>by
   rw [Int.natAbs_mul,Int.natAbs_natCast];have h1:=Nat.mul_le_mul hsX hz;have h2:X*(2*V*K)=2*(X*(V*K)):=by grind
   omega
  have e2:2*V*K=2*(V*K):=Nat.mul_assoc ..;rw [e]
  cases i with
  | zero=>
   cases p with
   | nil=>exact Nat.zero_le _
   | cons a t=>
    rw [ci_syn0 (s:Int) a t]
    have:=sub_abs hs (hsm _ (ih 0))
    omega
  | succ i=>
   rw [ci_syn (s:Int) p i]
   have:=sub_abs (ih i) (hsm _ (ih (i+1)))
   omega
theorem evI_le (A X x:Nat) (hx:x≤X):∀p:List Int,(∀i,(ci p i).natAbs≤A)→(evI p (x:Int)).natAbs≤A*(X+1) ^ p.length
 | [],_=>Nat.zero_le _
 | a :: t,h=>by
  have ih:=evI_le A X x hx t fun i=>h (i+1);have h0:a.natAbs≤A:=h 0
  show (evI t (x:Int)*(x:Int)+a).natAbs≤A*(X+1) ^ (t.length+1)
  have h1:=Int.natAbs_add_le (evI t (x:Int)*(x:Int)) a;rw [Int.natAbs_mul,Int.natAbs_natCast] at h1;generalize hK:(X+1) ^ t.length=K at ih;have hK1:1≤K:=by rw [←hK];exact Nat.pow_pos (by omega)
  have h2:=Nat.mul_le_mul ih hx;have h3:A≤A*K:=Nat.le_mul_of_pos_right A hK1;have e:A*(X+1) ^ (t.length+1)=A*K*X+A*K:=by rw [Nat.pow_succ,hK];grind
  omega
theorem filt_two {α:Type} (f:α→Bool):∀l:List α,l.length=(l.filter f).length+(l.filter fun a=>!f a).length
 | []=>rfl
 | a :: l=>by
  have ih:=filt_two f l;rw [List.filter_cons,List.filter_cons]
  cases f a
  ·simp only [Bool.not_false,if_true,List.length_cons]
   simp only [Bool.false_eq_true,if_false]
   omega
  ·simp only [if_true,List.length_cons,Bool.not_true,Bool.false_eq_true,if_false]
   omega
theorem evI_toR (x:Int):∀p:List Int,evR (toR p) (x:Rat)=(evI p x:Rat)
 | []=>Rat.intCast_zero.symm
 | a :: t=>by
  show evR (toR t) (x:Rat)*(x:Rat)+(a:Rat)=((evI t x*x+a:Int):Rat)
  rw [evI_toR x t,Rat.intCast_add,Rat.intCast_mul]
theorem co_rg (n:Nat→Int) (f:List Rat) (D:Nat) (h:∀i,co f i*(D:Rat)=(n i:Rat)):∀i,ci ((List.range f.length).map n) i=n i:=fun i=>by
 unfold ci;rw [List.getElem?_map]
 rcases Nat.lt_or_ge i f.length with k|k
 ·rw [List.getElem?_range k];rfl
 ·rw [List.getElem?_eq_none (by simpa using k)]
  have h1:=h i;rw [co_ge k] at h1;have h2:n i=0:=Rat.intCast_inj.1 (h1.symm.trans (by rw [Rat.intCast_zero];grind));rw [h2];rfl
theorem ev_rg {n:Nat→Int} {f:List Rat} {D:Nat} (h:∀i,co f i*(D:Rat)=(n i:Rat)) (x:Nat):(evI ((List.range f.length).map n) (x:Int):Rat)=evR f (x:Rat)*(D:Rat):=by
 rw [←evI_toR,Rat.intCast_natCast,←ev_map];refine ev_co (fun i=>?_) _;rw [co_toR,co_rg n f D h,co_map,h]
theorem factor_hf {a L:Nat} {f h p:List Rat} (hp:HF a p) (e:∀x,evR p x=evR f x*evR h x) (hf:Mo f) (hh:Mo h) (hp0:0<dgF p) (hL:dgF p≤L) (h63:L≤63):HF (2*a+23*L) f:=by
 obtain⟨hf0,hh0⟩:=dg_parts e hp0;have hdg:=dg_mul e hf0 hh0;obtain⟨D,n,D0,D1,D2⟩:=hp.nat;obtain⟨m,hm⟩:=factor_int e hh hh0 D0 fun i=>(D2 i).1;obtain⟨k,hk⟩:=factor_int (f:=h) (h:=f) (p:=p) (fun x=>by rw [e];grind) hf hf0 D0 fun i=>(D2 i).1;have tn:∀i,co (trimF p) i*(D:Rat)=(n i:Rat):=fun i=>by rw [co_trim];exact(D2 i).1
 have eP:∀x:Nat,(evI ((List.range (trimF p).length).map n) (x:Int):Rat)=evR p (x:Rat)*(D:Rat):=fun x=>by rw [ev_rg tn,ev_trim]
 have eF:=fun x:Nat=>ev_rg hm x;have eK:=fun x:Nat=>ev_rg hk x;have cP:=co_rg n (trimF p) D tn;have cF:=co_rg m f D hm;have lP:((List.range (trimF p).length).map n).length≤L:=by rw [List.length_map,List.length_range];exact hL
 have lF:((List.range f.length).map m).length≤L:=by
  have:=hf.len
  rw [List.length_map,List.length_range];omega
 generalize (List.range (trimF p).length).map n=P at eP cP lP;generalize (List.range f.length).map m=F at eF cF lF;generalize (List.range h.length).map k=K at eK
 have hfk:∀x:Nat,evI F (x:Int)*evI K (x:Int)=(D:Int)*evI P (x:Int):=fun x=>by
  apply Rat.intCast_inj.1
  rw [Rat.intCast_mul,Rat.intCast_mul,eF,eK,eP,e,Rat.intCast_natCast];grind
 have hroot:((List.range (2*L)).filter fun x=>decide (evI P ((x:Nat):Int)=0)).length<L:=by
  rcases Nat.lt_or_ge ((List.range (2*L)).filter fun x=>decide (evI P ((x:Nat):Int)=0)).length L with h1|h1
  ·exact h1
  ·exfalso
   have h2:=interp (2*L) _ P 0 (Nat.le_trans lP h1) (List.nodup_range.filter _) (fun x hx=>by
    have:=List.mem_range.1 (List.mem_filter.1 hx).1
    omega) (fun x hx=>by
    have:=of_decide_eq_true (List.mem_filter.1 hx).2
    rw [this];exact Nat.le_refl _) (dgF p - 1)
   rw [cP,Nat.zero_mul] at h2;have h3:=(D2 (dgF p - 1)).1;have h4:n (dgF p - 1)=0:=by omega
   rw [h4] at h3
   rcases Rat.mul_eq_zero.1 h3 with h5|h5
   ·exact dg_top hp0 h5
   ·have:=Rat.natCast_eq_zero_iff.1 h5
    omega
 have htwo:=filt_two (fun x:Nat=>decide (evI P (x:Int)=0)) (List.range (2*L));rw [List.length_range] at htwo;have hPv:∀x:Nat,x≤2*L→(evI P (x:Int)).natAbs≤2 ^ a*(2*L+1) ^ P.length:=fun x hx=>evI_le (2 ^ a) (2*L) x hx P fun i=>by rw [cP];exact Nat.le_of_lt (D2 i).2
 have hb:=interp (2*L) ((List.range (2*L)).filter fun x=>!decide (evI P ((x:Nat):Int)=0)) F (2 ^ a*(2 ^ a*(2*L+1) ^ L)) (by omega) (List.nodup_range.filter _) (fun x hx=>by
  have:=List.mem_range.1 (List.mem_filter.1 hx).1
  omega) (fun x hx=>by
  have h1:=List.mem_range.1 (List.mem_filter.1 hx).1;have h2:¬ evI P (x:Int)=0:=by simpa using (List.mem_filter.1 hx).2
  have h3:=congrArg Int.natAbs (hfk x);rw [Int.natAbs_mul,Int.natAbs_mul,Int.natAbs_natCast] at h3
  have h4:0<(evI K (x:Int)).natAbs:=by
   refine Nat.pos_of_ne_zero fun e0=>?_;rw [e0,Nat.mul_zero] at h3
   rcases Nat.mul_eq_zero.1 h3.symm with h5|h5
   ·omega
   ·omega
  have h5:=Nat.le_mul_of_pos_right (evI F (x:Int)).natAbs h4;have h6:=hPv x (by omega);have h7:(2*L+1) ^ P.length≤(2*L+1) ^ L:=Nat.pow_le_pow_right (by omega) lP;have h8:=Nat.mul_le_mul (Nat.le_of_lt D1) (Nat.le_trans h6 (Nat.mul_le_mul_left (2 ^ a) h7))
  omega)
 have hlen:((List.range (2*L)).filter fun x=>!decide (evI P ((x:Nat):Int)=0)).length≤2*L:=by omega
 have hpow:2 ^ a*(2 ^ a*(2*L+1) ^ L)*(2*(2*L)+3) ^ ((List.range (2*L)).filter fun x=>!decide (evI P ((x:Nat):Int)=0)).length<2 ^ (2*a+23*L):=by
  have L0:0<L:=by omega
  have h1:(2*(2*L)+3) ^ ((List.range (2*L)).filter fun x=>!decide (evI P ((x:Nat):Int)=0)).length≤(2 ^ 8) ^ (2*L):=
   Nat.le_trans (Nat.pow_le_pow_left (by omega) _) (Nat.pow_le_pow_right (by decide) hlen)
  have h2:(2*L+1) ^ L<(2 ^ 7) ^ L:=Nat.pow_lt_pow_left (by omega) (by omega)
  have e1:2 ^ (2*a+23*L)=2 ^ a*(2 ^ a*(2 ^ 7) ^ L)*(2 ^ 8) ^ (2*L):=by
   rw [←Nat.pow_mul,←Nat.pow_mul,←Nat.pow_add,←Nat.pow_add,←Nat.pow_add]
   congr 1;omega
  rw [e1];have h3:2 ^ a*(2 ^ a*(2*L+1) ^ L)<2 ^ a*(2 ^ a*(2 ^ 7) ^ L):=Nat.mul_lt_mul_of_pos_left (Nat.mul_lt_mul_of_pos_left h2 (Nat.pow_pos (by decide))) (Nat.pow_pos (by decide));exact Nat.lt_of_le_of_lt (Nat.mul_le_mul_left _ h1) (Nat.mul_lt_mul_of_pos_right h3 (Nat.pow_pos (Nat.pow_pos (by decide))))
 refine⟨(D:Int),m,by omega,?_,fun i=>⟨?_,?_⟩⟩
 ·rw [Int.natAbs_natCast]
  exact Nat.lt_of_lt_of_le D1 (Nat.pow_le_pow_right (by decide) (by omega))
 ·rw [←hm i,Rat.intCast_natCast]
 ·have:=hb i
  rw [cF] at this;exact Nat.lt_of_le_of_lt this hpow
theorem HF.sub {a b:Nat} {p q:List Rat} (hp:HF a p) (hq:HF b q):HF (a+b+1) (subF p q):=by
 obtain⟨D,n,D0,D1,D2⟩:=hp;obtain⟨E,m,E0,E1,E2⟩:=hq;have hw:2 ^ (a+b+1)=2 ^ a*2 ^ b*2:=by rw [Nat.pow_succ,Nat.pow_add]
 refine⟨D*E,fun i=>n i*E - m i*D,Int.mul_ne_zero D0 E0,?_,fun i=>⟨?_,?_⟩⟩
 ·rw [Int.natAbs_mul]
  have:=Nat.mul_lt_mul'' D1 E1
  omega
 ·rw [ev_inj (q:=zipA p (q.map (·*(-1)))) (fun x=>by rw [ev_subF,ev_zip,ev_map];grind),co_zip,co_map,Rat.intCast_sub,Rat.intCast_mul,Rat.intCast_mul,Rat.intCast_mul,←(D2 i).1,←(E2 i).1]
  grind
 ·show (n i*E - m i*D).natAbs<_
  have h1:=Int.natAbs_sub_le (n i*E) (m i*D);rw [Int.natAbs_mul,Int.natAbs_mul] at h1;have h2:=Nat.mul_lt_mul'' (D2 i).2 E1;have h3:=Nat.mul_lt_mul'' (E2 i).2 D1;rw [Nat.mul_comm (2 ^ b)] at h3;omega
theorem HF.deriv {a v:Nat} {p:List Rat} (hp:HF a p) (hv:dgF p≤2 ^ v):HF (a+v) (derivF p):=by
 obtain⟨D,n,D0,D1,D2⟩:=hp;have hw:2 ^ (a+v)=2 ^ a*2 ^ v:=Nat.pow_add ..;refine⟨D,fun i=>if i+1<dgF p then n (i+1)*((i+1:Nat):Int) else 0,D0,Nat.lt_of_lt_of_le D1 (Nat.pow_le_pow_right (by decide) (by omega)),fun i=>⟨?_,?_⟩⟩
 ·rw [co_deriv]
  show co p (i+1)*((i+1:Nat):Rat)*_=((if i+1<dgF p then n (i+1)*((i+1:Nat):Int) else 0:Int):Rat)
  split
  ·rw [Rat.intCast_mul,←(D2 _).1,Rat.intCast_natCast];grind
  ·rw [dg_ge (by omega),Rat.intCast_zero];grind
 ·show (if i+1<dgF p then n (i+1)*((i+1:Nat):Int) else 0).natAbs<_
  split
  ·rw [Int.natAbs_mul,Int.natAbs_natCast,hw]
   exact Nat.mul_lt_mul'' (D2 _).2 (by omega)
  ·exact Nat.pow_pos (by decide)
theorem HF.scale {a M:Nat} {p:List Rat} {c:Rat} (hp:HF a p) (hc:Bq M c):HF (a+M) (scaleF p c):=by
 obtain⟨D,n,D0,D1,D2⟩:=hp;have hw:2 ^ (a+M)=2 ^ a*2 ^ M:=Nat.pow_add ..;have hden:0<c.den:=Nat.pos_of_ne_zero c.den_nz;refine⟨D*c.den,fun i=>n i*c.num,Int.mul_ne_zero D0 (by omega),?_,fun i=>⟨?_,?_⟩⟩
 ·rw [Int.natAbs_mul,Int.natAbs_natCast,hw]
  exact Nat.mul_lt_mul'' D1 hc.2
 ·rw [co_scaleF,Rat.intCast_mul,Rat.intCast_mul,←(D2 i).1,←den_num c,Rat.intCast_natCast];grind
 ·rw [Int.natAbs_mul,hw]
  exact Nat.mul_lt_mul'' (D2 i).2 hc.1
theorem HF.mul {a b v:Nat} {p q:List Rat} (hp:HF a p) (hq:HF b q) (hv:p.length≤2 ^ v):HF (a+b+v+1) (mulF p q):=by
 obtain⟨D,n,D0,D1,D2⟩:=hp;obtain⟨E,m,E0,E1,E2⟩:=hq
 have hw:2 ^ (a+b+v+1)=2 ^ v*(2 ^ a*2 ^ b)*2:=by
  rw [Nat.pow_succ,Nat.mul_comm (2 ^ v),←Nat.pow_add,←Nat.pow_add]
 have hv1:1≤2 ^ v:=Nat.pow_pos (by decide);refine⟨D*E,fun i=>ipc n m p.length i,Int.mul_ne_zero D0 E0,?_,fun i=>⟨?_,?_⟩⟩
 ·rw [Int.natAbs_mul]
  have h1:=Nat.mul_lt_mul'' D1 E1;have h2:1*(2 ^ a*2 ^ b)≤2 ^ v*(2 ^ a*2 ^ b):=Nat.mul_le_mul_right _ hv1;omega
 ·have e:=co_prod (z:=n) (n:=m) (P:=q.map (·*(E:Rat))) (fun i=>by rw [co_map];exact(E2 i).1) p.length i
  rw [←e,ev_inj (p:=mulF ((List.range p.length).map fun j=>(n j:Rat)) (q.map (·*(E:Rat)))) (q:=(mulF p q).map (·*((D:Rat)*(E:Rat)))) (fun x=>?_),co_map,Rat.intCast_mul];rw [ev_mulF,ev_map,ev_map,ev_mulF]
  have e2:evR ((List.range p.length).map fun j=>(n j:Rat)) x=evR p x*(D:Rat):=by
   rw [←ev_map];refine ev_co (fun i=>?_) x;rw [co_list,co_map,(D2 i).1]
   split
   ·rfl
   ·rw [←(D2 i).1,co_ge (by omega)];grind
  rw [e2];grind
 ·show (ipc n m p.length i).natAbs<_
  have h1:=ipc_bound (f:=n) (g:=m) (K:=2 ^ a) (A:=2 ^ b) (fun j=>Nat.le_of_lt (D2 j).2) (fun j=>Nat.le_of_lt (E2 j).2) i p.length
  have h2:p.length*2 ^ a*2 ^ b≤2 ^ v*(2 ^ a*2 ^ b):=by
   rw [Nat.mul_assoc];exact Nat.mul_le_mul_right _ hv
  have h3:0<2 ^ v*(2 ^ a*2 ^ b):=Nat.mul_pos hv1 (Nat.mul_pos (Nat.pow_pos (by decide)) (Nat.pow_pos (by decide)));omega
end Go.Proofs.YtoefieefcndlkaaGreatDoor
set_option linter.unusedVariables false
set_option maxRecDepth 100000
set_option maxHeartbeats 64000000
namespace Go.Proofs.YtoefieefcndlkaaGreatDoor
set_option linter.unusedSimpArgs false
def bdF (a L:Nat):Nat:=2*a+23*L
def bdC (a L:Nat):Nat:=bdF a L+6+L*(bdF a L+1)
def bdR (a L:Nat):Nat:=bdC a L+(bdF a L+6)+1
def bdH (a L:Nat):Nat:=(bdR a L+9)*(2*L+2)
def bdM (a L:Nat):Nat:=bdH a L+L*(bdH a L+1)
theorem le_bounds (a L:Nat):bdF a L+6≤bdC a L∧bdC a L+L*(bdF a L+1)≤bdM a L∧bdR a L+L*(bdF a L+1)≤bdM a L∧bdR a L≤bdH a L∧bdH a L≤bdM a L:=by
 have h1:(bdR a L+9)*2≤(bdR a L+9)*(2*L+2):=Nat.mul_le_mul_left _ (by omega);have h2:bdH a L=(bdR a L+9)*(2*L+2):=rfl;have h3:bdM a L=bdH a L+L*(bdH a L+1):=rfl;have h4:bdR a L=bdC a L+(bdF a L+6)+1:=rfl;have h5:bdC a L=bdF a L+6+L*(bdF a L+1):=rfl;generalize L*(bdF a L+1)=T at *;generalize L*(bdH a L+1)=U at *;generalize (bdR a L+9)*(2*L+2)=V at *;omega
theorem factor_dv {a L:Nat} {f p:List Rat} (hp:HF a p) (mp:Mo p) (mf:Mo f) (h:Dv f p) (hp0:0<dgF p) (hL:dgF p≤L) (h63:L≤63):HF (bdF a L) f:=by
 have f0:=(h.dg hp0).1;have e:=quo_dv f0 h;obtain⟨mh,-⟩:=mp.quo hp0 mf (quo_trim _ _) e;exact factor_hf hp e mf mh hp0 hL h63
theorem pow6 {L:Nat} (h:L≤63) {n:Nat} (k:n≤L):n≤2 ^ 6:=by omega
theorem partsB_hf {a L M:Nat} {p0:List Rat} (hp0:HF a p0) (m0:Mo p0) (d0:0<dgF p0) (hL:dgF p0≤L) (h63:L≤63) (hM:bdM a L≤M):∀(n:Nat) (p b c:List Rat),Mo p→Dv p p0→0<dgF p→(∀x,evR p x=evR (nextP p) x*evR b x)→(∀x,evR (derivF p) x=evR (nextP p) x*evR c x)→trimF b=b→HF (bdC a L) c→dgF p≤n→partsB M n b c=true
 | 0,p,b,c,hp,hd,h0,_,_,_,_,hn=>by omega
 | n+1,p,b,c,hp,hd,h0,hb,hc,tb,hC,hn=>by
  have q0:=nextP_pos h0;have qm:=nextP_mo p
  rcases Nat.lt_or_ge 1 (dgF p) with h1|h1
  ·obtain⟨P,C,e1,Pm,P0,b1,e2,e3,tC,e4,c1,c2⟩:=yun_step hp h1 hb hc tb
   have ql:=nextP_less h1;obtain⟨Bm,B0⟩:=base_mo qm q0;have hd1:(divF b P).1=baseP (nextP p):=quo_eq P0 Bm.1 e2;have hd2:(divF (subF c (derivF b)) P).1=C:=quo_eq P0 tC e3;have qd:Dv (nextP p) p0:=Dv.trans ⟨b,hb⟩ hd;obtain⟨bm,b0⟩:=hp.quo h0 qm tb hb;have bd:Dv b p0:=Dv.trans ⟨nextP p,fun x=>by rw [hb];grind⟩ hd;have Pd:Dv P p0:=Dv.trans ⟨baseP (nextP p),e2⟩ bd;have qq0:=nextP_pos q0;have qqd:Dv (nextP (nextP p)) p0:=(nextP_dv (nextP p)).1.trans qd;have Fb:=factor_dv hp0 m0 bm bd d0 hL h63;have FP:=factor_dv hp0 m0 Pm Pd d0 hL h63;have Fq:=factor_dv hp0 m0 qm qd d0 hL h63;have Fqq:=factor_dv hp0 m0 (nextP_mo (nextP p)) qqd d0 hL h63;obtain⟨l1,l2,l3,l4,l5⟩:=le_bounds a L;have dp:=(hd.dg d0).2;have db:=(bd.dg d0).2;have dq:=(qd.dg d0).2;have Fb':=Fb.deriv (v:=6) (pow6 h63 (by omega));have FR:HF (bdR a L) (subF c (derivF b)):=(hC.sub Fb').mono (by unfold bdR;omega)
   have dgc:dgF c≤L:=by
    rcases Nat.eq_zero_or_pos (dgF c) with z|z
    ·omega
    ·have:=dg_mul hc q0 z
     have:=dg_deriv p
     omega
   have dgr:dgF (subF c (derivF b))≤L:=dg_sub (fun x=>ev_subF _ _ x) dgc (by rw [dg_deriv];omega);have k1:=(com_hf (a:=bdR a L) (w:=7) (N:=L) (H:=bdH a L) (M:=M) (Fb.mono (by unfold bdR;omega)) FR (by omega) dgr (by omega) (Nat.le_refl _) hM).1;have k2:=(div_hf (N:=L) (M:=M) Fb FP P0 (by omega) (by omega) (by omega)).1;have k3:=(div_hf (N:=L) (M:=M) FR FP P0 dgr (by omega) (by omega)).1;have k4:=(div_hf (N:=L) (M:=bdC a L) (Fq.deriv (v:=6) (pow6 h63 (by omega))) Fqq qq0 (by rw [dg_deriv];omega) (Nat.le_refl _) (by omega)).2.1;have eC:(divF (derivF (nextP p)) (nextP (nextP p))).1=C:=quo_eq qq0 tC e4;rw [eC] at k4;have i1:=partsB_hf hp0 m0 d0 hL h63 hM n (nextP p) (baseP (nextP p)) C qm qd q0 (base_ev q0) e4 Bm.1 k4 (by omega);unfold partsB;rw [if_pos (show 1<(trimF b).length from b1),e1,hd1,hd2,Fb.sm (by omega),hC.sm (by omega),Fb'.sm (by omega),k1,k2,k3,i1]
   have:(!(trimF P).isEmpty)=true:=by
    have:=trim_ne P0
    cases h9:trimF P with
    | nil=>exact absurd h9 this
    | cons x l=>rfl
   rw [this];rfl
  ·have hb0:=(dg_parts hb h0).2
   have:=dg_mul hb q0 hb0
   unfold partsB;rw [if_neg (show ¬ 1<(trimF b).length from by show ¬ 1<dgF b;omega)]
theorem parts_hf {a L M:Nat} {p:List Rat} (hp:HF a p) (h0:0<dgF p) (hL:dgF p≤L) (h63:L≤63) (hM:bdM a L≤M):partsOk M p=true∧∀l ∈ partsF p,HF (bdF a L) l:=by
 have hm:=hp.monic;have mm:=mo_mon p;have m0:0<dgF (monicF p):=by rw [dg_mon];exact h0
 have mL:dgF (monicF p)≤L:=by rw [dg_mon];exact hL
 have q0:=nextP_pos m0;have qd:=(nextP_dv (monicF p)).1;have Fq:=factor_dv hm mm (nextP_mo _) qd m0 mL h63;have Fm:=factor_dv hm mm mm (Dv.refl _) m0 mL h63;have Fm':=Fm.deriv (v:=6) (pow6 h63 (by omega));obtain⟨l1,l2,l3,l4,l5⟩:=le_bounds a L;have dd:dgF (derivF (monicF p))≤L:=by rw [dg_deriv];omega
 have ha:a≤bdF a L:=by unfold bdF;omega
 have k1:=(com_hf (a:=bdR a L) (w:=7) (N:=L) (H:=bdH a L) (M:=M) (Fm.mono (by unfold bdR;omega)) (Fm'.mono (by unfold bdR;omega)) mL dd (by omega) (Nat.le_refl _) hM).1;have k2:=(div_hf (N:=L) (M:=M) Fm Fq q0 mL (by omega) (by omega)).1;have k3:=(div_hf (N:=L) (M:=M) Fm' Fq q0 dd (by omega) (by omega)).1;have k4:=(div_hf (N:=L) (M:=bdC a L) Fm' Fq q0 dd (Nat.le_refl _) (by omega)).2.1;have hl:dgF (monicF p)=(monicF p).length:=mm.len;have k5:=partsB_hf hm mm m0 mL h63 hM ((monicF p).length+1) (monicF p) (baseP (monicF p)) _ mm (Dv.refl _) m0 (base_ev m0) (quo_dv q0 (nextP_dv _).2) (quo_trim _ _) k4 (by omega);refine⟨?_,fun l hl=>?_⟩
 ·unfold partsOk
  rw [hp.sm (by omega),hm.sm (by omega)];have e:commonF (monicF p) (derivF (monicF p))=nextP (monicF p):=rfl
  have:(!(trimF (nextP (monicF p))).isEmpty)=true:=by
   have:=trim_ne q0
   cases h9:trimF (nextP (monicF p)) with
   | nil=>exact absurd h9 this
   | cons x l=>rfl
  rw [k1,e,k2,k3,this,show partsB M ((monicF p).length+1) (divF (monicF p) (nextP (monicF p))).1 (divF (derivF (monicF p)) (nextP (monicF p))).1=true from k5];rfl
 ·obtain⟨a1,a2,-,a4⟩:=(yun h0).2.1 l hl
  exact factor_dv hm mm a1 (a4.trans (mon_dv p).2) m0 mL h63
end Go.Proofs.YtoefieefcndlkaaGreatDoor
set_option linter.unusedVariables false
set_option maxRecDepth 100000
set_option maxHeartbeats 64000000
namespace Go.Proofs.YtoefieefcndlkaaGreatDoor
set_option linter.unusedSimpArgs false
theorem hf_list {p:List Rat} {M N:Nat} (h:∀x ∈ p,Bq M x) (hd:dgF p≤N):HF (N*M+1) p:=by
 have h1:=hf_of_bq (trimF p) fun c hc=>h c (trim_mem hc);have h2:(trimF p).length*M≤N*M:=Nat.mul_le_mul_right _ hd;exact(h1.mono (by omega)).eqv fun i=>(co_trim p i).symm
end Go.Proofs.YtoefieefcndlkaaGreatDoor
