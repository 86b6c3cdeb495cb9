/- The sign of a polynomial at a root of another one. -/
import Derived.Test.YtkoaakefgacokaaGreatDoorGYo
import Derived.Test.YtkoaakefgacokaaGreatDoorGZa
import Derived.Test.YtkoaakefgacokaaGreatDoorGYz
import Derived.Test.YtkoaakefgacokaaGreatDoorGJb
import Derived.Test.YtkoaakefgacokaaGreatDoorGYi
set_option linter.unusedVariables false
set_option linter.unusedSimpArgs false
set_option maxRecDepth 100000
set_option maxHeartbeats 64000000
namespace Go.Proofs.YtkoaakefgacokaaGreatDoor
open Go.RowKit
end Go.Proofs.YtkoaakefgacokaaGreatDoor
namespace Go.Proofs.YtkoaakefgacokaaGreatDoor
open Go Go.ChangeShapes Go.WideShapes Go.ChangeAt Go.RowKit
theorem shut_four {H:Type} {enc:TypeId × Value→H} {W:World} {T E:TypeId} {s0 s1 s2 s3:ByteArray} (ht:Tryz.prog.underlying T=some (.array 4 E)) (he:Tryz.prog.underlying E=some .string) (hc:Tryz.prog.cellsOf E=1) (hcT:Tryz.prog.cellsOf T=4) (h0:s0.size≤maxLen) (h1:s1.size≤maxLen) (h2:s2.size≤maxLen) (h3:s3.size≤maxLen) (sp:Nat→Bool):DataW.Trod enc Tryz.prog W 0 sp true T (.agg #[.string s0,.string s1,.string s2,.string s3]) (.agg [.lit (.string s0.data.toList),.lit (.string s1.data.toList),.lit (.string s2.data.toList),.lit (.string s3.data.toList)]) []:=by
 refine⟨2,?_⟩;have r2:List.range 4=[0,1,2,3]:=rfl
 have e1:∀s:ByteArray,s.size≤maxLen→DataW.trod enc Tryz.prog W 0 sp true 1 E [.string s]=some (.lit (.string s.data.toList),[]):=fun s hs=>by
  simp [DataW.trod,he,hs]
 unfold DataW.trod;rw [ht]
 simp [r2,hc,hcT,Value.cells,e1 s0 h0,e1 s1 h1,e1 s2 h2,e1 s3 h3]
theorem open_four {H:Type} {enc:TypeId × Value→H} {W:World} {b0:Nat} {T E:TypeId} {v:Value} {d:DataW H} {ps:List MemPlace} (ht:Tryz.prog.underlying T=some (.array 4 E)) (he:Tryz.prog.underlying E=some .string) (hc:Tryz.prog.cellsOf E=1) (hcT:Tryz.prog.cellsOf T=4) (hv:Value.okWide Tryz.prog W .any b0 T v) (h:DataW.Trod enc Tryz.prog W 0 (fun _=>true) true T v d ps):∃s0 s1 s2 s3:List UInt8,v=.agg #[.string ⟨s0.toArray⟩,.string ⟨s1.toArray⟩,.string ⟨s2.toArray⟩,.string ⟨s3.toArray⟩]∧s0.length≤maxLen∧s1.length≤maxLen∧s2.length≤maxLen∧s3.length≤maxLen∧∀(W':World) (sp:Nat→Bool),DataW.Trod enc Tryz.prog W' 0 sp true T v d ps:=by
 simp only [Value.okWide,ht] at hv
 obtain⟨cs,rfl,hs,-⟩:=hv;rw [hcT] at hs
 obtain⟨c0,c1,c2,c3,rfl⟩:∃c0 c1 c2 c3,cs=#[c0,c1,c2,c3]:=by
  match cs,hs with
  | ⟨[c0,c1,c2,c3]⟩,_=>exact⟨c0,c1,c2,c3,rfl⟩
 obtain⟨fuel,hf⟩:=h;obtain⟨xs,m,rfl,hx,-,hl,hi⟩:=DataW.trod_array ht hf;have x0:=hi 0 (by decide);have x1:=hi 1 (by decide);have x2:=hi 2 (by decide);have x3:=hi 3 (by decide);rw [hc] at x0 x1 x2 x3
 match xs,hl with
 | [y0,y1,y2,y3],_=>
  obtain⟨s,hs0,rfl,hm0⟩:=DataW.trod_string he (show DataW.trod enc Tryz.prog W 0 (fun _=>true) true m E [c0]=some y0 from x0);obtain⟨t,hs1,rfl,hm1⟩:=DataW.trod_string he (show DataW.trod enc Tryz.prog W 0 (fun _=>true) true m E [c1]=some y1 from x1);obtain⟨r,hs2,rfl,hm2⟩:=DataW.trod_string he (show DataW.trod enc Tryz.prog W 0 (fun _=>true) true m E [c2]=some y2 from x2);obtain⟨o,hs3,rfl,hm3⟩:=DataW.trod_string he (show DataW.trod enc Tryz.prog W 0 (fun _=>true) true m E [c3]=some y3 from x3);obtain rfl:c0=.string s:=by injection hs0
  obtain rfl:c1=.string t:=by injection hs1
  obtain rfl:c2=.string r:=by injection hs2
  obtain rfl:c3=.string o:=by injection hs3
  simp only [Prod.mk.injEq] at hx
  obtain⟨rfl,rfl⟩:=hx;refine⟨s.data.toList,t.data.toList,r.data.toList,o.data.toList,by cases s;cases t;cases r;cases o;rfl,by rw [Array.length_toList];exact hm0,by rw [Array.length_toList];exact hm1,by rw [Array.length_toList];exact hm2,by rw [Array.length_toList];exact hm3,fun W' sp=>?_⟩;exact shut_four ht he hc hcT hm0 hm1 hm2 hm3 sp
end Go.Proofs.YtkoaakefgacokaaGreatDoor
namespace Go.Proofs.YtkoaakefgacokaaGreatDoor
def pwrF (P:List Rat):Nat→List Rat
 | 0=>[1]
 | k+1=>mulF (pwrF P k) P
theorem rpow_add (a:Rat) (m:Nat):∀n:Nat,a ^ (m+n)=a ^ m*a ^ n
 | 0=>by rw [Rat.pow_zero];show a ^ m=_;grind
 | n+1=>by rw [←Nat.add_assoc,Rat.pow_succ,Rat.pow_succ,rpow_add a m n];grind
theorem ev_pwrF (P:List Rat) (x:Rat):∀k,evR (pwrF P k) x=evR P x ^ k
 | 0=>by rw [Rat.pow_zero];exact ev_one x
 | k+1=>by
  show evR (mulF (pwrF P k) P) x=_
  rw [ev_mulF,ev_pwrF P x k,Rat.pow_succ]
def Prm (H:List Int):Prop:=∀l:Nat,1<l→¬ ∀i,(l:Int) ∣ ci H i
theorem prim_content:∀(n c:Nat) (G H:List Int),c≤n→0<c→Prm H→(∀k,(c:Int) ∣ pc G H k)→∀i,(c:Int) ∣ ci G i
 | 0,c,G,H,hn,hc,_,_,i=>by omega
 | n+1,c,G,H,hn,hc,hp,hk,i=>by
  by_cases h1:c=1
  ·subst h1;exact Int.one_dvd _
  obtain⟨l,l1,⟨c',hc'⟩,l3⟩:=prime_dv c c (Nat.le_refl _) (by omega);have hl:(l:Int)≠0:=by omega
  have hc0:0<c':=Nat.pos_of_ne_zero fun e=>by rw [e,Nat.mul_zero] at hc';omega
  have hlt:c'<c:=by rw [hc'];exact(Nat.lt_mul_iff_one_lt_left hc0).2 l1
  have hk1:∀k,(l:Int) ∣ pc G H k:=fun k=>Int.dvd_trans (Int.natCast_dvd_natCast.2 ⟨c',hc'⟩) (hk k)
  rcases gauss (prime_eu l3) _ G H (Nat.le_refl _) hk1 with h2|h2
  ·obtain⟨G',rfl⟩:=map_div h2
   have h3:=prim_content n c' G' H (by omega) hc0 hp (fun k=>by
     have h4:=hk k;rw [pc_mapl,hc',Int.natCast_mul] at h4;exact Int.dvd_of_mul_dvd_mul_left hl h4) i
   rw [ci_map,hc',Int.natCast_mul];exact Int.mul_dvd_mul_left _ h3
  ·exact absurd h2 (hp l l1)
theorem prim_ex:∀(n:Nat) (G:List Int) (j D:Nat),D≤n→0<D→ci G j=(D:Int)→∃(c:Nat) (F:List Int),0<c∧G=F.map ((c:Int)*·)∧Prm F
 | 0,G,j,D,h,h0,_=>by omega
 | n+1,G,j,D,h,h0,hj=>by
  by_cases hp:Prm G
  ·refine⟨1,G,by decide,?_,hp⟩
   have:(fun x:Int=>((1:Nat):Int)*x)=id:=by funext x;show (1:Int)*x=x;omega
   rw [this,List.map_id]
  ·obtain⟨l,hl⟩:=Classical.not_forall.1 hp
   obtain⟨l1,l2⟩:=Classical.not_imp.1 hl;have l3:=Classical.not_not.1 l2;obtain⟨G',rfl⟩:=map_div l3;have hd:=l3 j;rw [hj] at hd;obtain⟨e,he⟩:=Int.natCast_dvd_natCast.1 hd;have he0:0<e:=Nat.pos_of_ne_zero fun z=>by rw [z,Nat.mul_zero] at he;omega
   have hlt:e<D:=by rw [he];exact(Nat.lt_mul_iff_one_lt_left he0).2 l1
   have hj':ci G' j=(e:Int):=by
    rw [ci_map,he,Int.natCast_mul] at hj;exact Int.eq_of_mul_eq_mul_left (by omega) hj
   obtain⟨c,F,c0,e1,e2⟩:=prim_ex n G' j e (by omega) he0 hj';refine⟨l*c,F,Nat.mul_pos (by omega) c0,?_,e2⟩;rw [e1,List.map_map];refine List.map_congr_left fun x _=>?_
   show (l:Int)*((c:Int)*x)=((l*c:Nat):Int)*x
   rw [Int.natCast_mul,Int.mul_assoc]
theorem evI_map (c x:Int):∀p:List Int,evI (p.map (c*·)) x=c*evI p x
 | []=>by show (0:Int)=c*0;rw [Int.mul_zero]
 | a :: p=>by
  show evI (p.map (c*·)) x*x+c*a=c*(evI p x*x+a)
  rw [evI_map c x p];grind
theorem factor_hf2 {a L:Nat} {f h p:List Rat} (hp:HF a p) (e:∀x,evR p x=evR f x*evR h x) (hf:Mo f) (hh:Mo h) (hp0:0<dgF p) (hL:dgF p≤L) (h63:L≤63):HF (a+23*L) f:=by
 obtain⟨hf0,hh0⟩:=dg_parts e hp0;have hdg:=dg_mul e hf0 hh0;obtain⟨D,n,D0,D1,D2⟩:=hp.nat;obtain⟨m,hm⟩:=factor_int e hh hh0 D0 fun i=>(D2 i).1;obtain⟨k,hk⟩:=factor_int (f:=h) (h:=f) (p:=p) (fun x=>by rw [e];grind) hf hf0 D0 fun i=>(D2 i).1;have tn:∀i,co (trimF p) i*(D:Rat)=(n i:Rat):=fun i=>by rw [co_trim];exact(D2 i).1
 have eP:∀x:Nat,(evI ((List.range (trimF p).length).map n) (x:Int):Rat)=evR p (x:Rat)*(D:Rat):=fun x=>by rw [ev_rg tn,ev_trim]
 have eF:=fun x:Nat=>ev_rg hm x;have eK:=fun x:Nat=>ev_rg hk x;have cP:=co_rg n (trimF p) D tn;have cF:=co_rg m f D hm;have cK:=co_rg k h D hk;have lP:((List.range (trimF p).length).map n).length≤L:=by rw [List.length_map,List.length_range];exact hL
 have lF:((List.range f.length).map m).length≤L:=by
  have:=hf.len
  rw [List.length_map,List.length_range];omega
 generalize (List.range (trimF p).length).map n=P at eP cP lP;generalize (List.range f.length).map m=FD at eF cF lF;generalize (List.range h.length).map k=KD at eK cK
 have hj:ci FD (dgF f - 1)=(D:Int):=by
  rw [cF]
  apply Rat.intCast_inj.1
  rw [←hm]
  have:topF f=1:=hf.2.resolve_left fun e=>by rw [e] at hf0;cases hf0
  rw [top_eq hf.1] at this;rw [this,Rat.intCast_natCast];grind
 obtain⟨c,F,c0,eFD,hF⟩:=prim_ex D FD (dgF f - 1) D (Nat.le_refl _) D0 hj;have hcr:(c:Int)≠0:=by omega
 have hDr:(D:Int)≠0:=by omega
 have eRF:∀x,evR (toR FD) x=evR f x*(D:Rat):=fun x=>by
  rw [←ev_map];refine ev_co (fun i=>?_) x;rw [co_toR,cF,co_map,←hm]
 have eRK:∀x,evR (toR KD) x=evR h x*(D:Rat):=fun x=>by
  rw [←ev_map];refine ev_co (fun i=>?_) x;rw [co_toR,cK,co_map,←hk]
 have hpc:∀i,pc KD FD i=(D:Int)*n i:=fun i=>by
  apply Rat.intCast_inj.1
  rw [co_pc,ev_inj (q:=p.map (·*((D:Rat)*(D:Rat)))) (fun x=>by rw [ev_mulF,eRF,eRK,ev_map,e];grind),co_map,Rat.intCast_mul,←(D2 i).1,Rat.intCast_natCast]
  grind
 have hdv:=prim_content D D (KD.map ((c:Int)*·)) F (Nat.le_refl _) D0 hF fun i=>by
  refine⟨n i,?_⟩;rw [pc_mapl,←hpc,eFD,pc_mapr]
 obtain⟨K',hK'⟩:=map_div hdv
 have hfk:∀x:Nat,evI F (x:Int)*evI K' (x:Int)=evI P (x:Int):=fun x=>by
  have h1:(c:Int)*evI KD (x:Int)=(D:Int)*evI K' (x:Int):=by rw [←evI_map,←evI_map,hK']
  have h2:evI FD (x:Int)*evI KD (x:Int)=(D:Int)*evI P (x:Int):=by
   apply Rat.intCast_inj.1
   rw [Rat.intCast_mul,Rat.intCast_mul,eF,eK,eP,e,Rat.intCast_natCast];grind
  rw [eFD,evI_map] at h2
  have h3:(D:Int)*(evI F (x:Int)*evI K' (x:Int))=(D:Int)*evI P (x:Int):=by
   rw [←h2,Int.mul_left_comm,←h1];grind
  exact Int.eq_of_mul_eq_mul_left hDr h3
 have lF':F.length≤L:=by rw [eFD,List.length_map] at lF;exact lF
 have hroot:((List.range (2*L)).filter fun x=>decide (evI P ((x:Nat):Int)=0)).length<L:=by
  rcases Nat.lt_or_ge ((List.range (2*L)).filter fun x=>decide (evI P ((x:Nat):Int)=0)).length L with h1|h1
  ·exact h1
  ·exfalso
   have h2:=interp (2*L) _ P 0 (Nat.le_trans lP h1) (List.nodup_range.filter _) (fun x hx=>by
    have:=List.mem_range.1 (List.mem_filter.1 hx).1
    omega) (fun x hx=>by
    have:=of_decide_eq_true (List.mem_filter.1 hx).2
    rw [this];exact Nat.le_refl _) (dgF p - 1)
   rw [cP,Nat.zero_mul] at h2;have h3:=(D2 (dgF p - 1)).1;have h4:n (dgF p - 1)=0:=by omega
   rw [h4] at h3
   rcases Rat.mul_eq_zero.1 h3 with h5|h5
   ·exact dg_top hp0 h5
   ·have:=Rat.natCast_eq_zero_iff.1 h5
    omega
 have htwo:=filt_two (fun x:Nat=>decide (evI P (x:Int)=0)) (List.range (2*L));rw [List.length_range] at htwo;have hPv:∀x:Nat,x≤2*L→(evI P (x:Int)).natAbs≤2 ^ a*(2*L+1) ^ P.length:=fun x hx=>evI_le (2 ^ a) (2*L) x hx P fun i=>by rw [cP];exact Nat.le_of_lt (D2 i).2
 have hb:=interp (2*L) ((List.range (2*L)).filter fun x=>!decide (evI P ((x:Nat):Int)=0)) F (2 ^ a*(2*L+1) ^ L) (by omega) (List.nodup_range.filter _) (fun x hx=>by
  have:=List.mem_range.1 (List.mem_filter.1 hx).1
  omega) (fun x hx=>by
  have h1:=List.mem_range.1 (List.mem_filter.1 hx).1;have h2:¬ evI P (x:Int)=0:=by simpa using (List.mem_filter.1 hx).2
  have h3:=congrArg Int.natAbs (hfk x);rw [Int.natAbs_mul] at h3
  have h4:0<(evI K' (x:Int)).natAbs:=by
   refine Nat.pos_of_ne_zero fun e0=>?_;rw [e0,Nat.mul_zero] at h3;omega
  have h5:=Nat.le_mul_of_pos_right (evI F (x:Int)).natAbs h4;have h6:=hPv x (by omega);have h7:(2*L+1) ^ P.length≤(2*L+1) ^ L:=Nat.pow_le_pow_right (by omega) lP;have h8:=Nat.mul_le_mul_left (2 ^ a) h7
  omega)
 have hlen:((List.range (2*L)).filter fun x=>!decide (evI P ((x:Nat):Int)=0)).length≤2*L:=by omega
 have hpow:2 ^ a*(2*L+1) ^ L*(2*(2*L)+3) ^ ((List.range (2*L)).filter fun x=>!decide (evI P ((x:Nat):Int)=0)).length<2 ^ (a+23*L):=by
  have L0:0<L:=by omega
  have h1:(2*(2*L)+3) ^ ((List.range (2*L)).filter fun x=>!decide (evI P ((x:Nat):Int)=0)).length≤(2 ^ 8) ^ (2*L):=
   Nat.le_trans (Nat.pow_le_pow_left (by omega) _) (Nat.pow_le_pow_right (by decide) hlen)
  have h2:(2*L+1) ^ L<(2 ^ 7) ^ L:=Nat.pow_lt_pow_left (by omega) (by omega)
  have e1:2 ^ (a+23*L)=2 ^ a*(2 ^ 7) ^ L*(2 ^ 8) ^ (2*L):=by
   rw [←Nat.pow_mul,←Nat.pow_mul,←Nat.pow_add,←Nat.pow_add]
   congr 1;omega
  rw [e1];have h3:2 ^ a*(2*L+1) ^ L<2 ^ a*(2 ^ 7) ^ L:=Nat.mul_lt_mul_of_pos_left h2 (Nat.pow_pos (by decide));exact Nat.lt_of_le_of_lt (Nat.mul_le_mul_left _ h1) (Nat.mul_lt_mul_of_pos_right h3 (Nat.pow_pos (Nat.pow_pos (by decide))))
 have hl:(c:Int)*ci F (dgF f - 1)=(D:Int):=by rw [←hj,eFD,ci_map]
 refine⟨ci F (dgF f - 1),fun i=>ci F i,fun z=>by rw [z,Int.mul_zero] at hl;omega,?_,fun i=>⟨?_,Nat.lt_of_le_of_lt (hb i) hpow⟩⟩
 ·exact Nat.lt_of_le_of_lt (hb _) hpow
 ·have h1:=hm i
  rw [←cF,eFD,ci_map,Rat.intCast_mul] at h1;have h2:((D:Int):Rat)=(c:Rat)*((ci F (dgF f - 1):Int):Rat):=by rw [←hl,Rat.intCast_mul,Rat.intCast_natCast]
  rw [Rat.intCast_natCast] at h2;rw [h2,Rat.intCast_natCast] at h1;have hc':(c:Rat)≠0:=fun z=>by have:=Rat.natCast_eq_zero_iff.1 z;omega
  have h3:(c:Rat)*(co f i*((ci F (dgF f - 1):Int):Rat))=(c:Rat)*((ci F i:Int):Rat):=by rw [←h1];grind
  have h4:(c:Rat)*(co f i*((ci F (dgF f - 1):Int):Rat) - ((ci F i:Int):Rat))=0:=by grind
  rcases Rat.mul_eq_zero.1 h4 with h5|h5
  ·exact absurd h5 hc'
  ·grind
theorem HF.flip {a:Nat} {p q:List Rat} {s:Rat} (h:HF a p) (hs:Pm s) (e:∀x,evR q x=s*evR p x):HF a q:=by
 obtain⟨D,n,h0,h1,h2⟩:=h
 have ec:∀i,co q i=co p i*s:=fun i=>by
  rw [ev_inj (p:=q) (q:=scaleF p s) (fun x=>by rw [e,ev_scaleF];grind),co_scaleF]
 rcases hs with rfl|rfl
 ·exact⟨D,n,h0,h1,fun i=>⟨by rw [ec,←(h2 i).1];grind,(h2 i).2⟩⟩
 ·exact⟨D,fun i=>-n i,h0,h1,fun i=>⟨by rw [ec,Rat.intCast_neg,←(h2 i).1];grind,by rw [Int.natAbs_neg];exact(h2 i).2⟩⟩
def Sg (u U:List Rat):Prop:=∃s,Pm s∧∀x,evR u x=s*evR U x
theorem Sg.dg {u U:List Rat} (h:Sg u U):dgF u=dgF U:=by
 obtain⟨s,hs,e⟩:=h;refine Nat.le_antisymm (dg_scale (c:=s) fun x=>by rw [e];grind) (dg_scale (c:=s) fun x=>?_);rw [e]
 have:=hs.sq
 have h2:s*evR U x*s=s*s*evR U x:=by grind
 rw [h2,this];grind
theorem Sg.hf {a:Nat} {u U:List Rat} (h:Sg u U) (k:HF a U):HF a u:=by
 obtain⟨s,hs,e⟩:=h;exact k.flip hs e
theorem small_sg (p:List Rat):Sg (smallF p) (monicF p):=by
 rcases Nat.eq_zero_or_pos (dgF p) with h|h
 ·rw [small_nil h,mon_nil h]
  exact⟨1,.inl rfl,fun x=>by show (0:Rat)=1*0;grind⟩
 ·have ht:=top_trim_ne (trim_ne h)
  have e:∀x,evR (smallF p) x=evR p x*(1 / absQ (topF (trimF p))):=fun x=>by
   unfold smallF;rw [if_neg (trim_ne h),ev_scaleF,ev_trim]
  rcases lt_or_le' (topF (trimF p)) 0 with g|g
  ·refine⟨-1,.inr rfl,fun x=>?_⟩
   rw [e,mon_ev h]
   have:absQ (topF (trimF p)) = -(topF (trimF p)):=by
    unfold absQ;rw [if_pos]
    have:=num_pos' (show 0 < -(topF (trimF p)) by grind)
    rw [Rat.neg_num] at this;omega
   rw [this];have a1:=inv_ne ht;have a2:=inv_ne (show -(topF (trimF p))≠0 by grind);generalize topF (trimF p)=c at *;generalize 1 / c=w at *;generalize 1 / (-c)=u at *;have a3:u*(c*w) = -w*(-c*u):=by grind
   rw [a1,a2] at a3;have a4:u = -w:=by grind
   rw [a4];grind
  ·refine⟨1,.inl rfl,fun x=>?_⟩
   rw [e,mon_ev h]
   have:absQ (topF (trimF p))=topF (trimF p):=by
    unfold absQ;rw [if_neg]
    have:=Rat.num_nonneg.2 g
    omega
   rw [this];grind
theorem Sg.mon {u U:List Rat} (h:Sg u U):monicF u=monicF U:=by
 obtain⟨s,hs,e⟩:=h
 have h2:∀x,evR U x=evR u x*s:=fun x=>by
  rw [e]
  have:=hs.sq
  have h3:s*evR U x*s=s*s*evR U x:=by grind
  rw [h3,this];grind
 exact(mo_mon u).uniq (mo_mon U) (((mon_dv u).1.trans ⟨[s],fun x=>by rw [ev_const,h2]⟩).trans (mon_dv U).2) (((mon_dv U).1.trans ⟨[s],fun x=>by rw [ev_const,e];grind⟩).trans (mon_dv u).2)
theorem next_sg {u v U V:List Rat} (hu:Sg u U) (hv:Sg v V) (hV:0<dgF V):Sg (smallF (scaleF (divF u v).2 (-1))) (monicF (divF U V).2):=by
 have hv0:0<dgF v:=by rw [hv.dg];exact hV
 obtain⟨d1,d2,d3⟩:=div_ev u v hv0;obtain⟨f1,f2,f3⟩:=div_ev U V hV;obtain⟨s,hs,es⟩:=hu;obtain⟨t,ht,et⟩:=hv
 have hr:∀x,evR (divF u v).2 x=s*evR (divF U V).2 x:=by
  have h1:Dv v (subF (divF u v).2 (scaleF (divF U V).2 s)):=⟨subF (scaleF (divF U V).1 (s*t)) (divF u v).1,fun x=>by
   rw [ev_subF,ev_scaleF,ev_subF,ev_scaleF];have g1:=d1 x;have g2:=f1 x;have g3:=es x;have g4:=et x;have g5:=ht.sq;have g6:evR v x*(evR (divF U V).1 x*(s*t))=s*evR (divF U V).1 x*(t*t*evR V x):=by rw [g4];grind
   rw [g5] at g6;have g7:evR v x*(evR (divF U V).1 x*(s*t) - evR (divF u v).1 x)=evR v x*(evR (divF U V).1 x*(s*t)) - evR (divF u v).1 x*evR v x:=by grind
   rw [g7,g6];rw [g3,g2] at g1
   grind⟩
  have h2:dgF (subF (divF u v).2 (scaleF (divF U V).2 s))≤dgF v - 1:=dg_sub (fun x=>ev_subF _ _ x) (by have:=div_dg u v hv0;omega) (Nat.le_trans (dg_scale fun x=>ev_scaleF _ _ x) (by
   have h3:=div_dg U V hV;have h4:dgF v=dgF V:=Sg.dg ⟨t,ht,et⟩
   omega))
  have h3:=h1.small (by omega);intro x
  have:=dgz h3 x
  rw [ev_subF,ev_scaleF] at this
  grind
 have h4:Sg (scaleF (divF u v).2 (-1)) (divF U V).2:=⟨-s,hs.neg,fun x=>by rw [ev_scaleF,hr];grind⟩;have h5:=small_sg (scaleF (divF u v).2 (-1));rw [h4.mon] at h5;exact h5
theorem chB_hf {H M N:Nat} {p q:List Rat} {a w:Nat} (mp:Mo p) (mq:Mo q) (hp:HF a p) (hq:HF a q) (hw:dgF p+dgF q+2≤2 ^ w) (hH:(a+w+2)*(dgF p+dgF q+2)≤H) (hN:dgF p≤N) (hN2:dgF q≤N) (hM:H+N*(H+1)≤M):∀(n:Nat) (u v U V:List Rat),Sg u U→Sg v V→InC p q U V→HF H U→Mo V→dgF U≤N→dgF V<n→trimF v=v→trimF u=u→chB M n u v=true∧∀l ∈ chainU n u v,HF H l∧dgF l≤N∧trimF l=l
 | 0,u,v,U,V,_,_,_,_,_,_,h,_,_=>by omega
 | n+1,u,v,U,V,su,sv,hi,hU,mV,hNU,hn,tv,tu=>by
  have hVH:=hf_mo hi hp hq hw hH;have huH:=su.hf hU;have hvH:=sv.hf hVH;have hdu:dgF u≤N:=by rw [su.dg];exact hNU
  have hle:dgF V≤N:=by
   rcases hi with ⟨rfl,rfl⟩|h
   ·exact hN2
   ·have:=h.dg;omega
  by_cases h0:u=[]
  ·subst h0
   refine⟨rfl,fun l hl=>?_⟩
   have:chainU (n+1) [] v=[]:=if_pos rfl
   rw [this] at hl;cases hl
  rcases Nat.eq_zero_or_pos (dgF V) with hV|hV
  ·have hv0:v=[]:=by
    have:dgF v=0:=by rw [sv.dg];exact hV
    unfold dgF at this;rw [tv] at this;exact List.length_eq_zero_iff.1 this
   subst hv0;refine⟨?_,fun l hl=>?_⟩
   ·show (u.isEmpty || ([]:List Rat).isEmpty || _)=true
    simp
   ·rw [chain_one n h0] at hl
    rw [List.mem_singleton.1 hl];exact⟨huH,hdu,tu⟩
  ·have hv0:0<dgF v:=by rw [sv.dg];exact hV
   have hvne:v≠[]:=ne_of_dg hv0;have k:=div_hf (N:=N) (M:=M) huH hvH hv0 hdu hM (by omega);have hd:=div_dg U V hV;obtain⟨i1,i2⟩:=chB_hf mp mq hp hq hw hH hN hN2 hM n v (smallF (scaleF (divF u v).2 (-1))) V (monicF (divF U V).2) sv (next_sg su sv hV) (hi.next hV) hVH (mo_mon _) hle (by rw [dg_mon];omega) (small_trim _) tv;refine⟨?_,fun l hl=>?_⟩
   ·show (u.isEmpty || v.isEmpty || (divOk M u v && smB M (divF u v).2 && chB M n v (smallF (scaleF (divF u v).2 (-1)))))=true
    rw [k.1,k.2.2.sm (Nat.le_refl _),i1];simp
   ·rw [chain_two n h0 hvne] at hl
    rcases List.mem_cons.1 hl with rfl|hl
    ·exact⟨huH,hdu,tu⟩
    ·exact i2 l hl
theorem chain_hf {a w N H M:Nat} {p q:List Rat} (hp:HF a p) (hq:HF a q) (hN:dgF p≤N) (hN2:dgF q≤N) (hw:2*N+2≤2 ^ w) (hH:(a+w+2)*(2*N+2)≤H) (hM:H+N*(H+1)≤M):chainOk M p q=true∧∀l ∈ chainF p q,HF H l∧dgF l≤N∧trimF l=l:=by
 have ha:a≤H:=by
  have:(a+w+2)*1≤(a+w+2)*(2*N+2):=Nat.mul_le_mul_left _ (by omega)
  omega
 have h2:(a+w+2)*(dgF (monicF p)+dgF (monicF q)+2)≤(a+w+2)*(2*N+2):=Nat.mul_le_mul_left _ (by rw [dg_mon,dg_mon];omega);have dl:=dg_len q;obtain⟨k1,k2⟩:=chB_hf (H:=H) (M:=M) (N:=N) (mo_mon p) (mo_mon q) hp.monic hq.monic (by rw [dg_mon,dg_mon];omega) (Nat.le_trans h2 hH) (by rw [dg_mon];exact hN) (by rw [dg_mon];exact hN2) hM (p.length+q.length+2) (smallF p) (smallF q) (monicF p) (monicF q) (small_sg p) (small_sg q) (.inl ⟨rfl,rfl⟩) (hp.monic.mono ha) (mo_mon q) (by rw [dg_mon];exact hN) (by rw [dg_mon];omega) (small_trim q) (small_trim p);refine⟨?_,k2⟩;unfold chainOk;rw [k1,hp.sm (by omega),hq.sm (by omega)];rfl
def Gr (b j:Nat) (x:Rat):Prop:=Ab (tw b) x∧∃z:Int,x*tw j=(z:Rat)
theorem Gr.up {b j:Nat} {x:Rat} (h:Gr b j x):Gr b (j+1) x:=by
 obtain⟨h1,z,h2⟩:=h;refine⟨h1,z*2,?_⟩;rw [tw_succ,Rat.intCast_mul,←h2]
 show x*(tw j*2)=x*tw j*2
 grind
theorem Gr.bq {b j:Nat} {x:Rat} (h:Gr b j x):Bq (b+j+1) x:=by
 obtain⟨h1,z,h2⟩:=h
 have hz:Ab (tw (b+j)) (z:Rat):=by
  rw [←h2,tw_add];exact h1.mul ⟨by have:=tw_pos j;grind,Rat.le_refl⟩
 have q1:=hz.1;have q2:=hz.2
 have e1:z≤((2 ^ (b+j):Nat):Int):=by
  apply Rat.intCast_le_intCast.1
  rw [Rat.intCast_natCast];exact q2
 have e2:-((2 ^ (b+j):Nat):Int)≤z:=by
  apply Rat.intCast_le_intCast.1
  rw [Rat.intCast_neg,Rat.intCast_natCast];exact q1
 have hp:2 ^ (b+j)<2 ^ (b+j+1):=Nat.pow_lt_pow_right (by decide) (by omega);have hj:2 ^ j≤2 ^ (b+j):=Nat.pow_le_pow_right (by decide) (by omega);have hj0:0<2 ^ j:=Nat.pow_pos (by decide);refine bq_of_mul (D:=((2 ^ j:Nat):Int)) (n:=z) (by omega) (by rw [Rat.intCast_natCast];exact h2) (by rw [Int.natAbs_natCast];omega) (by omega)
theorem Pm.mul {s t:Rat} (h:Pm s) (k:Pm t):Pm (s*t):=by
 rcases h with rfl|rfl <;> rcases k with rfl|rfl
 ·exact .inl (by grind)
 ·exact .inr (by grind)
 ·exact .inr (by grind)
 ·exact .inl (by grind)
theorem max_left (a b:Rat):a≤ar a b:=by unfold ar;split <;> grind
theorem max_right (a b:Rat):b≤ar a b:=by unfold ar;split <;> grind
theorem ab_abs (q:Rat):Ab (absQ q) q∧0≤absQ q:=by
 unfold absQ Ab
 split
 ·rename_i h
  have:q<0:=by
   rcases lt_or_le' q 0 with g|g
   ·exact g
   ·have:=Rat.num_nonneg.2 g;omega
  exact⟨⟨by grind,by grind⟩,by grind⟩
 ·rename_i h
  have:0≤q:=Rat.num_nonneg.1 (by omega)
  exact⟨⟨by grind,by grind⟩,by grind⟩
theorem count_far {p:List Rat} (h0:0<dgF p) {x y ε:Rat} (h:x≤y) (he:0<ε) (hf:∀t,x≤t→t≤y→∃s,Pm s∧ε≤s*evR p t):betweenF (ownF p) x y=0:=by
 obtain⟨K1,k1,a1⟩:=ab_ex x;obtain⟨K2,k2,a2⟩:=ab_ex y;obtain⟨B,hB1,hB2⟩:=ab_max (K:=K1) (L:=K2);have b1:=a1.mono hB1;have b2:=a2.mono hB2;have hB:=b1.nonneg;have hin:∀t,x≤t→t≤y→Ab B t:=fun t h1 h2=>⟨Rat.le_trans b1.1 h1,Rat.le_trans h2 b2.2⟩;obtain⟨K,k0,hK⟩:=syn_ab hB (simpleF p);obtain⟨R,r0,hR⟩:=ev_ab hB (nextP p);have ev:∀t,evR p t=evR (nextP p) t*evR (simpleF p) t:=fun t=>quo_dv (nextP_pos h0) (nextP_dv p).1 t;have hR1:0<R+1:=by grind
 have hinv:=Rat.mul_inv_cancel (R+1) (by grind);obtain⟨e,e0,e1⟩:∃e,0<e∧e*(R+1)=ε:=⟨ε*(R+1)⁻¹,Rat.mul_pos he (Rat.inv_pos.2 hR1),by grind⟩
 have hbig:∀t,x≤t→t≤y→∃s,Pm s∧e≤s*evR (simpleF p) t:=by
  intro t h1 h2;obtain⟨s,hs,hp⟩:=hf t h1 h2;obtain⟨σ,hσ,hσp⟩:=pm_of (evR (simpleF p) t);refine⟨σ,hσ,?_⟩
  rcases lt_or_le' (σ*evR (simpleF p) t) e with g|g
  ·exfalso
   have hr:=(hR t (hin t h1 h2)).pm (hs.mul hσ)
   have e2:s*evR p t=(s*σ)*evR (nextP p) t*(σ*evR (simpleF p) t):=by
    rw [ev t]
    have:=hσ.sq
    grind
   have e3:(s*σ)*evR (nextP p) t*(σ*evR (simpleF p) t)≤R*(σ*evR (simpleF p) t):=by
    have:=Rat.mul_nonneg (show 0≤R - (s*σ)*evR (nextP p) t by have:=hr.2;grind) hσp
    grind
   have e4:R*(σ*evR (simpleF p) t)≤R*e:=by
    have:=Rat.mul_nonneg r0 (show 0≤e - σ*evR (simpleF p) t by grind)
    grind
   grind
  ·exact g
 obtain⟨d,d0,dK,-⟩:=small_ex e0 k0 (show (0:Rat)<1 by grind);obtain⟨n,hn⟩:=arch d0 (y - x);refine by_pieces d0 (fun a b=>betweenF (ownF p) a b=0) (fun t=>by rw [between_v];omega) (fun a b c _ _ h1 h2=>by rw [←between_add _ a b c,h1,h2];rfl) (lo:=x) (hi:=y) (fun a b h1 h2 h3 h4=>?_) n x y Rat.le_refl h Rat.le_refl hn;obtain⟨s,hs,hp⟩:=hbig a h1 (Rat.le_trans h2 h3);exact count_fix h0 h2 hs (fix_near hK dK (hin a h1 (Rat.le_trans h2 h3)) (hin b (Rat.le_trans h1 h2) h3) h2 h4 hs hp)
theorem most_ge (l:List Rat):∀(n:Nat) (i:Nat),i<n→n≤l.length→Ab (mostF l n) (co l i)∧0≤mostF l n
 | 0,i,h,_=>by omega
 | n+1,i,h,hl=>by
  have hq:=List.getElem?_eq_getElem (show n<l.length by omega);have hc:co l n=l[n]:=by unfold co;rw [hq];rfl
  have h1:absQ l[n]≤mostF l (n+1)∧mostF l n≤mostF l (n+1):=by
   rw [most_succ l n _ hq];exact⟨max_right _ _,max_left _ _⟩
  have h2:Ab (absQ l[n]) l[n]∧0≤absQ l[n]:=ab_abs _
  rcases Nat.lt_or_ge i n with h3|h3
  ·obtain⟨a1,a2⟩:=most_ge l n i h3 (by omega)
   exact⟨a1.mono h1.2,Rat.le_trans a2 h1.2⟩
  ·obtain rfl:i=n:=by omega
   rw [hc];exact⟨h2.1.mono h1.1,Rat.le_trans h2.2 h1.1⟩
theorem most_pos (l:List Rat) (n:Nat) (h:n≤l.length):0≤mostF l n:=by
 rcases Nat.eq_zero_or_pos n with e|e
 ·subst e;exact Rat.le_refl
 ·exact(most_ge l n 0 e h).2
theorem bound_pos (p:List Rat):1≤boundF p:=by
 have:=most_pos (monicF p) ((monicF p).length - 1) (Nat.sub_le _ _)
 unfold boundF
 grind
open Go.RowKit
theorem list_14 (v:Value) (ls:List (List UInt8)) (w:World) (h:Stl w v ls) (hn:ls.length≤14):Calls Tryz.prog 6 #[v] w fun e w'=>∃va vx,e=.returned (.tuple #[va,vx])∧Px w' va (listF ls) 14 4001∧Ext w w':=by
 refine(list_n v ls (by omega) w h).mono ?_;rintro e w' ⟨va,vx,rfl,hp,hr,k⟩;refine⟨va,vx,rfl,⟨hp,by unfold listF;rw [List.length_map];exact hn,fun x hx=>?_⟩,k⟩;unfold listF at hx;obtain⟨s,-,rfl⟩:=List.mem_map.1 hx;exact aw s
def boundE (p:List Rat):Rat × Int:=if askF p=0 then (boundF p,0) else (0,askF p)
theorem mon_ne {p:List Rat} (h:askF p=0):monicF p≠[]:=by
 have h1:=(ask_zero h).2;exact ne_of_dg (by rw [dg_mon];exact List.length_pos_iff.2 h1)
theorem min_ex {a b:Rat} (ha:0<a) (hb:0<b):∃c,0<c∧c≤a∧c≤b:=by
 rcases Rat.le_total (a:=a) (b:=b) with h|h
 ·exact⟨a,ha,Rat.le_refl,h⟩
 ·exact⟨b,hb,h,Rat.le_refl⟩
theorem ab_two (x y:Rat):∃B,0≤B∧∀t,x≤t→t≤y→Ab B t:=by
 obtain⟨K1,k1,a1⟩:=ab_ex x;obtain⟨K2,k2,a2⟩:=ab_ex y;obtain⟨B,b1,b2⟩:=ab_max (K:=K1) (L:=K2);have q1:=a1.1;have q2:=a2.2;exact⟨B,by grind,fun t h1 h2=>⟨by grind,by grind⟩⟩
def Low (p:List Rat) (x y:Rat):Prop:=∃ σ ε,Pm σ∧0<ε∧∀t,x≤t→t≤y→ε≤σ*evR p t
theorem Low.mono {p:List Rat} {x y a b:Rat} (h:Low p x y) (h1:x≤a) (h2:b≤y):Low p a b:=by
 obtain⟨σ,ε,hσ,he,hf⟩:=h;exact⟨σ,ε,hσ,he,fun t k1 k2=>hf t (Rat.le_trans h1 k1) (Rat.le_trans k2 h2)⟩
theorem Low.fx {p:List Rat} {x y:Rat} (h:Low p x y):∃ σ,Pm σ∧Fx σ p x y:=by
 obtain⟨σ,ε,hσ,he,hf⟩:=h;exact⟨σ,hσ,fun t k1 k2=>by have:=hf t k1 k2;grind⟩
theorem far_fix {p:List Rat} {x y ε:Rat} (he:0<ε) (h:x≤y) (hf:∀t,x≤t→t≤y→∃s,Pm s∧ε≤s*evR p t):Low p x y:=by
 obtain⟨B,hB,hin⟩:=ab_two x y;obtain⟨K,k0,hK⟩:=syn_ab hB p;obtain⟨d,d0,dK,-⟩:=small_ex he k0 (show (0:Rat)<1 by grind);obtain⟨n,hn⟩:=arch d0 (y - x);obtain⟨σ,hσ,hσx⟩:=hf x Rat.le_refl h;refine⟨σ,ε,hσ,he,fun t h1 h2=>?_⟩;refine by_pieces d0 (fun a b=>∀ σ,Pm σ→ε≤σ*evR p a→ε≤σ*evR p b) (fun _ _ _ h=>h) (fun a b c _ _ h1 h2 σ hs h=>h2 σ hs (h1 σ hs h)) (lo:=x) (hi:=y) (fun a b h1 h2 h3 h4 σ hs hp=>?_) n x t Rat.le_refl h1 h2 (by grind) σ hσ hσx;have hfx:=fix_near hK dK (hin a h1 (Rat.le_trans h2 h3)) (hin b (Rat.le_trans h1 h2) h3) h2 h4 hs hp b h2 Rat.le_refl;obtain⟨τ,hτ,hb⟩:=hf b (Rat.le_trans h1 h2) h3
 rcases hs with rfl|rfl <;> rcases hτ with rfl|rfl <;> first|exact hb|(exfalso;grind)
theorem Low.mul {a b c:List Rat} {x y:Rat} (h:Low a x y) (k:Low b x y) (e:∀t,evR c t=evR a t*evR b t):Low c x y:=by
 obtain⟨σ,ε,hσ,he,hf⟩:=h;obtain⟨τ,δ,hτ,hd,hg⟩:=k;refine⟨σ*τ,ε*δ,hσ.mul hτ,Rat.mul_pos he hd,fun t k1 k2=>?_⟩;have h1:=hf t k1 k2;have h2:=hg t k1 k2;rw [e,show σ*τ*(evR a t*evR b t)=(σ*evR a t)*(τ*evR b t) by grind];exact mul_le' h1 h2 (Rat.le_of_lt he) (Rat.le_of_lt hd)
theorem Low.fac {a b c:List Rat} {x y:Rat} (h:Low c x y) (hxy:x≤y) (e:∀t,evR c t=evR a t*evR b t):Low a x y:=by
 obtain⟨σ,ε,hσ,he,hf⟩:=h;obtain⟨B,hB,hin⟩:=ab_two x y;obtain⟨R,r0,hR⟩:=ev_ab hB b;obtain⟨δ,d0,d1,-⟩:=small_ex he r0 (show (0:Rat)<1 by grind);refine far_fix d0 hxy fun t h1 h2=>?_;obtain⟨s,hs,hsp⟩:=pm_of (evR a t);refine⟨s,hs,?_⟩
 rcases lt_or_le' (s*evR a t) δ with g|g
 ·exfalso
  have f1:=hf t h1 h2;rw [e] at f1;have hr:=(hR t (hin t h1 h2)).pm (hσ.mul hs)
  have e2:σ*(evR a t*evR b t)=(s*evR a t)*(σ*s*evR b t):=by
   have:=hs.sq
   grind
  have e3:(s*evR a t)*(σ*s*evR b t)≤(s*evR a t)*R:=by
   have:=Rat.mul_nonneg hsp (show 0≤R - σ*s*evR b t by have:=hr.2;grind)
   grind
  have e4:(s*evR a t)*R≤δ*R:=by
   have:=Rat.mul_nonneg r0 (show 0≤δ - s*evR a t by grind)
   grind
  grind
 ·exact g
theorem Low.one (x y:Rat):Low [1] x y:=⟨1,1,.inl rfl,by decide,fun t _ _=>by rw [ev_one];grind⟩
theorem Low.pwr {p:List Rat} {x y:Rat} (h:Low p x y):∀k,Low (pwrF p k) x y
 | 0=>by
  refine(Low.one x y).mul (Low.one x y) fun t=>?_;rw [ev_pwrF,ev_one,Rat.pow_zero];grind
 | k+1=>by
  refine(Low.pwr h k).mul h fun t=>?_;rw [ev_pwrF,ev_pwrF,pow_add1]
theorem base_pow:∀(n:Nat) (p:List Rat),Mo p→0<dgF p→dgF p≤n→∃(k:Nat) (h:List Rat),∀x,evR (baseP p) x ^ k=evR p x*evR h x
 | 0,p,_,h0,hn=>by omega
 | n+1,p,hp,h0,hn=>by
  rcases Nat.lt_or_ge 1 (dgF p) with h1|h1
  ·obtain⟨c,hc⟩:=(nextP_dv p).2
   obtain⟨P,C,-,-,-,-,e,-⟩:=yun_step hp h1 (base_ev h0) hc (quo_trim _ _);have ql:=nextP_less h1;obtain⟨k,h,ih⟩:=base_pow n (nextP p) (nextP_mo p) (nextP_pos h0) (by omega);refine⟨k+1,mulF h (pwrF P k),fun x=>?_⟩;have h2:evR (baseP p) x ^ k=evR P x ^ k*(evR (nextP p) x*evR h x):=by rw [e,mul_pow,ih]
   rw [pow_add1,h2,ev_mulF,ev_pwrF,base_ev h0 x];generalize evR P x ^ k=w
   grind
  ·have:p=[1]:=mo_one_of hp (by omega)
   refine⟨0,[1],fun x=>?_⟩;rw [this,ev_one,Rat.pow_zero];grind
theorem simple_pow {p:List Rat} (h0:0<dgF p):∃(k:Nat) (h:List Rat),∀x,evR (pwrF (simpleF p) k) x=evR p x*evR h x:=by
 have m0:0<dgF (monicF p):=by rw [dg_mon];exact h0
 obtain⟨k,h,e⟩:=base_pow _ (monicF p) (mo_mon p) m0 (Nat.le_refl _);refine⟨k,scaleF h (1 / topF (trimF p)*topF (trimF p) ^ k),fun x=>?_⟩;rw [ev_pwrF,simple_ev h0,mul_pow,e,mon_ev h0,ev_scaleF];generalize 1 / topF (trimF p)=w;generalize topF (trimF p) ^ k=v
 grind
theorem Low.of_simple {p:List Rat} (h0:0<dgF p) {x y:Rat} (hxy:x≤y) (h:Low (simpleF p) x y):Low p x y:=by
 obtain⟨k,H,e⟩:=simple_pow h0;exact(h.pwr k).fac hxy e
theorem Low.count {p:List Rat} (h0:0<dgF p) {x y:Rat} (hxy:x≤y) (h:Low p x y):betweenF (ownF p) x y=0:=by
 obtain⟨σ,ε,hσ,he,hf⟩:=h;exact count_far h0 hxy he fun t h1 h2=>⟨σ,hσ,hf t h1 h2⟩
theorem piece3 {B:Rat} (hB:0≤B) {p q:List Rat} {l:List (List Rat)} (hc:Chn (p :: q :: l)) {μ:Rat} (hμ:0<μ) (hq:∀x,evR q x=μ*evR (derivF p) x):∃d ε,0<d∧0<ε∧∀a b,Ab B a→Ab B b→a≤b→b - a≤d→(∃s,Pm s∧(∀x,a≤x→x≤b→ε≤s*evR p x)∧∃N:Int,∀x,a≤x→x≤b→vF (p :: q :: l) x=N)∨(∃s,Pm s∧Up s p a b∧Fx s q a b∧∃N:Int,∀x,a≤x→x≤b→vF (p :: q :: l) x=chg (atF x p) (si s)+N):=by
 obtain⟨κ,κ0,hη⟩:=hc.loc hB _ _ rfl;obtain⟨Kp,kp0,kp⟩:=syn_ab hB p;obtain⟨Kq,kq0,kq⟩:=syn_ab hB q;obtain⟨K2,k20,k2⟩:=syn2_ab hB p;obtain⟨d1,e,d10,e0,-,h1⟩:=hη 1 (by decide)
 obtain⟨d2,d20,d2a,d2b⟩:=small_ex (e:=κ) (K:=2*Kq+2*(μ*K2)) (n:=d1) κ0 (by
  have:=Rat.mul_nonneg (Rat.le_of_lt hμ) k20
  grind) d10
 obtain⟨d3,d30,d3a,d3b⟩:=small_ex (e:=e) (K:=2*Kp) (n:=d2) e0 (by grind) d20;refine⟨d3,e / 2,d30,by grind,fun a b ha hb hab hba=>?_⟩;obtain⟨t1,t2⟩:=h1 a b ha hb hab (by grind);obtain⟨σ,hσ,hσp⟩:=pm_of (evR p a)
 have hin:∀x,a≤x→x≤b→Ab B x:=fun x h1 h2=>by
  have q1:=ha.1;have q2:=hb.2
  constructor <;> grind
 rcases lt_or_le' (σ*evR p a) e with h|h
 ·obtain⟨q',m,s,hl,hs,hsq,hg⟩:=t2 (by rcases hσ with rfl|rfl <;> grind) (by rcases hσ with rfl|rfl <;> grind)
  injection hl with hl1 hl2
  subst hl1 hl2;obtain⟨N,hN⟩:=hg.head (p:=p);refine .inr ⟨s,hs,fun x y hax hxy hyb=>?_,?_,N,hN⟩
  ·have hx:=hin x hax (by grind)
   have hy:=hin y (by grind) hyb;have g1:=ev_syn a x q;have g2:=(show Ab d2 (x - a) by constructor <;> grind).mul (kq a x ha hx);have g3:=(show Ab d2 (y - x) by constructor <;> grind).mul (k2 x y hx hy);have g4:=taylor x y p;have g5:=hq x;have g6:=(g2.pm hs);have g7:=(g3.pm hs);have g8:=(show Ab μ μ from ⟨by grind,Rat.le_refl⟩).mul g7
   have pos:0<μ*(s*(evR (derivF p) x+(y - x)*evR (syn x (syn x p)) y)):=by
    have b1:=g6.1;have b2:=g8.1
    have e1:μ*(s*(evR (derivF p) x+(y - x)*evR (syn x (syn x p)) y))=s*evR q a+s*((x - a)*evR (syn a q) x)+μ*(s*((y - x)*evR (syn x (syn x p)) y)):=by
     rw [g1] at g5
     grind
    rw [e1]
    grind
   have pos2:0<s*(evR (derivF p) x+(y - x)*evR (syn x (syn x p)) y):=by
    rcases lt_or_le' 0 (s*(evR (derivF p) x+(y - x)*evR (syn x (syn x p)) y)) with h9|h9
    ·exact h9
    ·exfalso
     have:=Rat.mul_nonneg (Rat.le_of_lt hμ) (show 0≤-(s*(evR (derivF p) x+(y - x)*evR (syn x (syn x p)) y)) by grind)
     grind
   have pos3:=Rat.mul_pos (show 0<y - x by grind) pos2;rw [g4]
   grind
  ·cases hg with
   | one _ hf=>exact hf
   | next _ hf _=>exact hf
   | skip _ hf _=>exact hf
 ·obtain⟨N,hN⟩:=(t1 σ hσ h).same
  refine .inl ⟨σ,hσ,fun x h1 h2=>?_,N,hN⟩;have g1:=ev_syn a x p;have g2:=((show Ab d3 (x - a) by constructor <;> grind).mul (kp a x ha (hin x h1 h2))).pm hσ;have g3:=g2.1;rw [g1]
  grind
theorem chg_vals (s t:Rat) (hs:Pm s) (ht:Pm t):chg (si s) (si t)=if s=t then 0 else 1:=by
 rcases hs with rfl|rfl <;> rcases ht with rfl|rfl <;> decide
theorem low_keep {p:List Rat} (h0:0<dgF p) {x y:Rat} (h:x≤y) (hN:betweenF (ownF p) x y=0) (hx:evR p x≠0):Low p x y:=by
 refine Low.of_simple h0 h ?_;have hsx:evR (simpleF p) x≠0:=fun e=>hx ((root_simple h0 x).2 e)
 rcases own_chain h0 with ⟨d1,c,e,k,hk,hc⟩|⟨-,p0,q,l,k,μ,e,hc,hk,hp0,hμ,hq⟩
 ·have h1:∀t,evR (simpleF p) t=co (simpleF p) 0:=fun t=>ev_dg1 (by omega) t
  rw [h1] at hsx;obtain⟨σ,hσ,h2⟩:=pm_of (co (simpleF p) 0);have h3:0<σ*co (simpleF p) 0:=by rcases hσ with rfl|rfl <;> grind
  exact⟨σ,_,hσ,h3,fun t _ _=>by rw [h1];exact Rat.le_refl⟩
 ·obtain⟨B,hB,hin⟩:=ab_two x y
  obtain⟨d,ε,d0,ε0,hp⟩:=piece3 hB hc hμ hq;obtain⟨n,hn⟩:=arch d0 (y - x)
  have hlow:∀ σ,Pm σ→0<σ*evR p0 x→∃ ε,0<ε∧∀t,x≤t→t≤y→ε≤σ*evR p0 t:=by
   refine by_pieces d0 (fun a b=>betweenF (ownF p) a b=0→∀ σ,Pm σ→0<σ*evR p0 a→∃ ε,0<ε∧∀t,a≤t→t≤b→ε≤σ*evR p0 t) (fun a _ σ hσ h=>⟨_,h,fun t h1 h2=>by rw [show t=a by grind];exact Rat.le_refl⟩) (fun a b c hab hbc h1 h2 hz σ hσ hpos=>?_) (lo:=x) (hi:=y) (fun a b h1 h2 h3 h4 hz σ hσ hpos=>?_) n x y Rat.le_refl h Rat.le_refl hn hN
   ·have z1:=count_pos h0 hab
    have z2:=count_pos h0 hbc;have z3:=between_add (ownF p) a b c;obtain⟨ε1,e1,f1⟩:=h1 (by omega) σ hσ hpos;obtain⟨ε2,e2,f2⟩:=h2 (by omega) σ hσ (by have:=f1 b hab Rat.le_refl;grind);obtain⟨ε3,e3,g1,g2⟩:=min_ex e1 e2;refine⟨ε3,e3,fun t h3 h4=>?_⟩
    rcases Rat.le_total (a:=t) (b:=b) with g|g
    ·exact Rat.le_trans g1 (f1 t h3 g)
    ·exact Rat.le_trans g2 (f2 t g h4)
   ·rcases hp a b (hin a h1 (Rat.le_trans h2 h3)) (hin b (Rat.le_trans h1 h2) h3) h2 h4 with ⟨s,hs,hlo,-⟩|⟨s,hs,hup,-,N,hV⟩
    ·have:=hlo a Rat.le_refl h2
     have:s=σ:=by rcases hs with rfl|rfl <;> rcases hσ with rfl|rfl <;> first|rfl|(exfalso;grind)
     subst this;exact⟨ε,ε0,hlo⟩
    ·have hmon:∀u w,a≤u→u≤w→w≤b→s*evR p0 u≤s*evR p0 w:=fun u w g1 g2 g3=>by
      rcases lt_or_le' u w with g|g
      ·exact Rat.le_of_lt (hup u w g1 g g3)
      ·rw [show u=w by grind];exact Rat.le_refl
     have haσ:=at_si hσ hpos
     have hzz:chg (atF b p0) (si s)=chg (si σ) (si s):=by
      rw [between_v,e] at hz;have v1:=hV a Rat.le_refl h2;have v2:=hV b h2 Rat.le_refl;rw [haσ] at v1;omega
     rcases Classical.em (σ=s) with g|g
     ·subst g
      exact⟨_,hpos,fun t g1 g2=>hmon a t Rat.le_refl g1 g2⟩
     ·have hs':s = -σ:=by rcases hs with rfl|rfl <;> rcases hσ with rfl|rfl <;> first|(exfalso;exact g rfl)|(exfalso;grind)|grind
      rw [chg_vals σ s hσ hs,if_neg g] at hzz
      have hb:0<σ*evR p0 b:=by
       have c1:=chg_vals s s hs hs;rw [if_pos rfl] at c1
       rcases at_cases b p0 with ⟨z1,z2⟩|⟨z1,z2⟩|⟨z1,z2⟩
       ·rw [z1] at hzz
        have:chg 0 (si s)=0:=by unfold chg;rw [if_neg (by omega)]
        omega
       ·rcases hs with rfl|rfl
        ·rw [z1] at hzz;exact absurd hzz (by decide)
        ·rw [show σ=1 by grind];grind
       ·rcases hs with rfl|rfl
        ·rw [show σ = -1 by grind];grind
        ·rw [z1] at hzz;exact absurd hzz (by decide)
      refine⟨_,hb,fun t g1 g2=>?_⟩
      have:=hmon t b g1 g2 Rat.le_refl
      rw [hs'] at this
      grind
  obtain⟨σ,hσ,h1⟩:=pm_of (evR p0 x)
  have hp0x:evR p0 x≠0:=fun e=>by
   rw [hp0] at e
   rcases Rat.mul_eq_zero.1 e with z|z
   ·exact hsx z
   ·grind
  obtain⟨δ,dl,hl⟩:=hlow σ hσ (by rcases hσ with rfl|rfl <;> grind)
  have:Low p0 x y:=⟨σ,δ,hσ,dl,hl⟩
  exact this.fac (b:=[k]) h fun t=>by rw [ev_const];exact hp0 t
end Go.Proofs.YtkoaakefgacokaaGreatDoor
