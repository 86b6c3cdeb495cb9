/- The reference's natural numbers: a shift to the right. The reference's natural numbers: a shift to the left. -/
import Derived.Test.YtoefieefcndlkaaGreatDoorGWh
import Derived.BigRegion
import Derived.Test.YtoefieefcndlkaaGreatDoorGTd
set_option linter.unusedVariables false
set_option maxRecDepth 100000
set_option maxHeartbeats 64000000
namespace Go.Proofs.YtoefieefcndlkaaGreatDoor
open Go.RowKit
theorem pow_split (e:Nat) (h:e<30):∃F G:Nat,F=2 ^ e∧0<F∧0<G∧F*G=B30∧F≤536870912∧G=1073741824 / F:=by
 refine⟨2 ^ e,2 ^ (30 - e),rfl,Nat.pow_pos (by omega),Nat.pow_pos (by omega),?_,?_,?_⟩
 ·rw [←Nat.pow_add,show e+(30 - e)=30 by omega];rfl
 ·have:2 ^ e≤2 ^ 29:=Nat.pow_le_pow_right (by omega) (by omega)
  omega
 ·have h2:2 ^ e*2 ^ (30 - e)=1073741824:=by rw [←Nat.pow_add,show e+(30 - e)=30 by omega]
  rw [←h2,Nat.mul_div_cancel_left _ (Nat.pow_pos (by omega))]
theorem right_digit {F G B x y:Nat} (hF:0<F) (hG:0<G) (hB:F*G=B) (hx:x<B):x / F+y % F*G<B:=by
 have h1:x / F<G:=Nat.div_lt_of_lt_mul (by rw [hB];exact hx);have h2:y % F<F:=Nat.mod_lt _ hF;have h3:(y % F+1)*G≤F*G:=Nat.mul_le_mul_right _ h2;rw [Nat.add_mul,Nat.one_mul] at h3;omega
theorem right_step {F G B P R V x0 x y:Nat} (hB:F*G=B) (h:F*R+x0=V+P*(x % F)):F*(R+P*(x / F+y % F*G))+x0=V+P*x+P*B*(y % F):=by
 have h1:=Nat.div_add_mod x F;have h2:F*(P*(x / F+y % F*G))=P*(F*(x / F))+P*B*(y % F):=by rw [←hB];grind
 have h3:P*x=P*(F*(x / F))+P*(x % F):=by rw [←Nat.mul_add,h1]
 rw [Nat.mul_add,h2,h3];omega
theorem right_end {F R V x0:Nat} (hF:0<F) (h:F*R+x0=V) (hx:x0<F):R=V / F:=by
 rw [←h,Nat.mul_add_div hF,Nat.div_eq_of_lt hx,Nat.add_zero]
theorem right_r (va:Value) (n k:Nat) (hk:k≤35184372088832) (w:World) (ha:Wr w va n) (sa:Sr n):Calls Tryz.prog 129 #[va,.int .i64 k] w fun e w'=>∃v,e=.returned v∧Wr w' v (n / 2 ^ k)∧Ext w w':=by
 obtain⟨A,ca,rfl,hca,hA⟩:=ha;unfold Sr at sa;have en:=num_dr n;have nl:=dr_lt n;have hnn:=dr_norm n;generalize dr n=l at *;obtain⟨s,e,hse,he⟩:∃s e:Nat,k=30*s+e∧e<30:=⟨k / 30,k % 30,by omega,by omega⟩;have hq:(k:Int) / 30=(s:Int):=by omega
 have hr:(k:Int) % 30=(e:Int):=by omega
 have hwq:IntKind.i64.wrap (s:Int)=(s:Int):=IntWalk.i64_in _ (by omega);have hsb:s≤35184372088832:=by omega
 have HSE:=ZZ hse;have En:=ZZ en;have Nl:=ZZ nl;clear en nl hse
 by_cases hsl:l.length≤s
 ·have hc1:decide ((l.length:Int)≤(s:Int))=true:=by simp;omega
  have HZ:=ZZ (show n / 2 ^ k=0 by
   apply Nat.div_eq_of_lt
   have h1:=num_lt B30 l Nl.out;rw [En.out] at h1;have h2:B30 ^ l.length≤2 ^ k:=by rw [B30_pow,HSE.out];exact Nat.pow_le_pow_right (by omega) (by omega)
   omega)
  go_enter Tryz.func129,Tryz.ntmps129
  go_wp2_with fail;go_ret
  exact⟨_,rfl,by rw [HZ.out];exact Wr.zero _,ae _⟩
 ·have hc1:decide ((l.length:Int)≤(s:Int))=false:=by simp;omega
  obtain⟨b,o,rfl,hc⟩:=hA.i (by omega);obtain⟨F,G,hF,hF0,hG0,hFG,hFb,hG⟩:=pow_split e he;obtain⟨m,hm⟩:∃m,l.length=s+m:=⟨l.length - s,by omega⟩;obtain⟨y,hy⟩:∃y,y=l.drop s:=⟨_,rfl⟩;have hyl:y.length=m:=by rw [hy,List.length_drop,hm];omega
  have hyb:∀d ∈ y,d<B30:=fun d hd=>Nl.out d (by rw [hy] at hd;exact List.mem_of_mem_drop hd)
  have hcy:∀j,j<m→w.cell? ⟨b,o+s+j,none⟩=some (.int .i64 ((y.getD j 0:Nat):Int)):=fun j hj=>by
   have h1:=hc (s+j) (by omega);rw [show o+(s+j)=o+s+j by omega] at h1;rw [h1,hy]
   simp [List.getD_eq_getElem?_getD]
  have HNY:=ZZ (show n / 2 ^ k=num B30 y / F by
   have h1:=num_drop B30 l s (by omega);rw [En.out,←hy] at h1;have h2:=num_lt B30 (l.take s) (fun d hd=>Nl.out d (List.mem_of_mem_take hd));rw [List.length_take,Nat.min_eq_left (by omega)] at h2;rw [HSE.out,Nat.pow_add,←B30_pow,←Nat.div_div_eq_div_mul,←hF]
   congr 1
   rw [h1,Nat.add_comm,Nat.mul_add_div (Nat.pow_pos (by rw [B30_eq];omega)),Nat.div_eq_of_lt h2,Nat.add_zero])
  have HY:=ZZ hyl;have HYB:=ZZ hyb;have HC:=ZZ hcy;have HF:=ZZ hF;have HFG:=ZZ hFG;have hmk:=mk_digits m (m:Int) rfl (by omega);have hF':((2:Int) ^ e)=(F:Int):=by rw [hF];push_cast;rfl
  have hsh:IntKind.i64.wrap ((2:Int) ^ e)=(F:Int):=by rw [hF'];exact IntWalk.i64_in _ (by omega)
  have hmp:0<m:=by omega
  have hsc0:s+m≤ca:=by omega
  have hc2:decide ((s:Int)+(m:Int)≤(s:Int))=false:=by simp;omega
  have hc3:decide (s+m≤s)=false:=by simp;omega
  rw [hm];clear hc1 hsl;have hu:IntKind.u64.wrap (e:Int)=(e:Int):=IntWalk.u64_in _ (by omega);have hs0:(0:Int)≤(s:Int):=by omega
  have hsl':(s:Int)≤((s+m:Nat):Int):=by omega
  have hsc:((s+m:Nat):Int)≤(ca:Int):=by omega
  have hsum:s+m - s=m:=by omega
  clear hcy hyb hyl hy hc hA hF hFG hnn hF'
  go_enter Tryz.func129,Tryz.ntmps129
  go_wp2_with fail;clear hmk hc2 hc3
  go_loopw [7] (fun i wr=>∃(t:Nat) (r:List Nat),t≤m∧i=.int .i64 t∧r.length=m∧(∀d ∈ r,d<B30)∧BkI wr w.heap.size r∧Below w.heap.size w wr∧F*num B30 (r.take t)+y.getD 0 0 % F=num B30 (y.take t)+B30 ^ t*(y.getD t 0 % F)) (fun i _=>m - (intOf i).toNat)
  case atStart=>exact⟨0,zs m,Nat.zero_le _,rfl,zs_length _,zs_lt (by rw [B30_eq];omega) _,BkI.new _ _,ab _ _,by simp⟩
  case round=>
   obtain⟨t,r,ht,rfl,hr,hrl,hbk,hbel,hnum⟩:=hrel;have Hr:Hid (r.length=m):=hr;have Hrl:=ZZ hrl;have Hbk:Hid (BkI wr w.heap.size r):=hbk;have Hnum:=ZZ hnum;clear hr hrl hnum hbk
   by_cases hlt:t<m
   ·have ea:=am hbel (HC.out t hlt)
    have hci:=Hbk.out.cell t (by rw [Hr.out];omega);have hfi:=Hbk.out.frozen t;have hxb:=getD_lt HYB.out (by rw [B30_eq];omega) t;have HX:=ZZ hxb;have HTT:=ZZ (num_take_le B30 y t);rw [B30_eq] at hxb;obtain⟨x,hx⟩:∃x,x=y.getD t 0:=⟨_,rfl⟩;rw [←hx] at ea hxb;have HXX:=ZZ hx;obtain⟨q,hq⟩:∃q,q=x / F:=⟨_,rfl⟩;have hqi:(x:Int) / (F:Int)=(q:Int):=by rw [hq];exact(Int.natCast_ediv x F).symm
    have hqb:q≤1073741824:=by rw [hq];have:=Nat.div_le_self x F;omega
    have hwq1:IntKind.i64.wrap (q:Int)=(q:Int):=IntWalk.i64_in _ (by omega);have HQ:=ZZ hq;have hF0':((F:Int) == 0)=false:=by rw [beq_eq_false_iff_ne];omega
    clear hx hq
    by_cases hl1:t+1<m
    ·obtain⟨z,hz⟩:∃z,z=y.getD (t+1) 0:=⟨_,rfl⟩
     have hzb:=getD_lt HYB.out (by rw [B30_eq];omega) (t+1);rw [←hz,B30_eq] at hzb;have HZ:=ZZ hz;obtain⟨z1,hz1⟩:∃z1,z1=z % F:=⟨_,rfl⟩;have hzi:(z:Int) % (F:Int)=(z1:Int):=by rw [hz1];exact(Int.natCast_emod z F).symm
     have hz1F:z1<F:=by rw [hz1];exact Nat.mod_lt _ hF0
     have hGi:(1073741824:Int) / (F:Int)=(G:Int):=by rw [hG];exact(Int.natCast_ediv 1073741824 F).symm
     have HVB:=right_digit (x:=x) (y:=z) hF0 hG0 HFG.out (by rw [B30_eq];exact hxb);rw [←HQ.out,←hz1,B30_eq] at HVB;have hGb:G≤1073741824:=by rw [hG];exact Nat.div_le_self _ _
     obtain⟨p,hp⟩:∃p,p=z1*G:=⟨_,rfl⟩;rw [←hp] at HVB;obtain⟨v,hv⟩:∃v,v=q+p:=⟨_,rfl⟩
     have hw5:IntKind.i64.wrap ((z1:Int)*(G:Int))=(p:Int):=by
      rw [show (z1:Int)*(G:Int)=(p:Int) by rw [hp];push_cast;rfl];exact IntWalk.i64_in _ (by omega)
     have hw6:IntKind.i64.wrap ((q:Int)+(p:Int))=(v:Int):=(IntWalk.i64_in _ (by omega)).trans (by omega);have hw7:IntKind.i64.wrap (G:Int)=(G:Int):=IntWalk.i64_in _ (by omega);have hw8:IntKind.i64.wrap ((t:Int)+1)=((t+1:Nat):Int):=(IntWalk.i64_in _ (by omega)).trans (by omega);have hvb:v<1073741824:=by omega
     have HV:=ZZ (show v=x / F+z % F*G by rw [hv,hp,hz1,HQ.out]);have HVb:=ZZ (show v<B30 by rw [B30_eq];exact hvb);have hc5:decide (((t+1:Nat):Int)<(m:Int))=true:=by simp;omega
     have hc6:decide (t+1<m)=true:=by simp;omega
     clear hv hp hz1 hz HVB hG
     go_upto_region 11 with (fail)
     have Hb2:=ZZ (Hbk.out.set_ t q);have HE2:=ZZ (show Below w.heap.size w (wr.setCell ⟨w.heap.size,t,none⟩ (.int .i64 (q:Int))) from hbel.setCell (Nat.le_refl _) _);generalize wr.setCell ⟨w.heap.size,t,none⟩ (.int .i64 (q:Int))=wx at *;have eb:=am HE2.out (HC.out (t+1) hl1);rw [←HZ.out] at eb;have hci2:=Hb2.out.cell t (by rw [List.length_set,Hr.out];omega);rw [show (r.set t q).getD t 0=q by simp [List.getD_eq_getElem?_getD,show t<r.length by rw [Hr.out];exact hlt]] at hci2;have hfi2:=Hb2.out.frozen t;have Hb3:=ZZ (fun d:Nat=>(Hb2.out.drewN d).set_ t v);clear hci hfi ea hbel
     go_big_region
     all_goals
      go_wp2_with fail
      go_roundw
      case rel=>
       refine⟨t+1,(r.set t q).set t v,by omega,by first|rfl|go_num,by rw [List.length_set,List.length_set,Hr.out],by rw [List.set_set];exact set_lt Hrl.out HVb.out t,?_,?_,?_⟩
       ·first|exact Hb3.out 1|exact Hb2.out.set_ t v
       ·exact(ak HE2.out (ac _)).setCell (Nat.le_refl _) _
       ·have h1:=Hnum.out
        rw [←HXX.out] at h1;have h2:=right_step (y:=z) HFG.out h1;rw [List.set_set,num_set_take _ _ _ _ (by rw [Hr.out];omega),HTT.out,←HXX.out,Nat.pow_succ,←HZ.out,HV.out];exact h2
      case measure=>simp [intOf];omega
    ·have hc5:decide (((t+1:Nat):Int)<(m:Int))=false:=by simp;omega
     have hc6:decide (t+1<m)=false:=by simp;omega
     have hw8:IntKind.i64.wrap ((t:Int)+1)=((t+1:Nat):Int):=(IntWalk.i64_in _ (by omega)).trans (by omega);have Hb2:=ZZ (Hbk.out.set_ t q);have HE2:=ZZ (show Below w.heap.size w (wr.setCell ⟨w.heap.size,t,none⟩ (.int .i64 (q:Int))) from hbel.setCell (Nat.le_refl _) _);have HQB:=ZZ (show q<B30 by rw [B30_eq,HQ.out];have:=Nat.div_le_self x F;omega)
     have HST:=ZZ (show F*num B30 ((r.set t q).take (t+1))+y.getD 0 0 % F=num B30 (y.take (t+1))+B30 ^ (t+1)*(y.getD (t+1) 0 % F) by
      have h1:=Hnum.out;rw [←HXX.out] at h1;have h2:=right_step (y:=0) HFG.out h1;rw [num_set_take _ _ _ _ (by rw [Hr.out];omega),HTT.out,←HXX.out,Nat.pow_succ,show y.getD (t+1) 0=0 by rw [List.getD_eq_getElem?_getD,List.getElem?_eq_none (by rw [HY.out];omega)];rfl]
      simp only [Nat.zero_mod,Nat.zero_mul,Nat.add_zero] at h2 ⊢
      rw [HQ.out];exact h2)
     go_wp2_with fail
     go_roundw
     case rel=>exact⟨t+1,r.set t q,by omega,by first|rfl|go_num,by rw [List.length_set,Hr.out],set_lt Hrl.out HQB.out t,Hb2.out,HE2.out,HST.out⟩
     case measure=>simp [intOf];omega
   ·have htm:t=m:=by omega
    subst htm;have HCL:=ZZ Hbk.out.cl;go_wp2_with fail;refine(rcut_c _ r _ _ HCL.out t Hr.out (by omega) (by omega)).mono ?_;rintro e w2 ⟨rfl,rfl⟩;go_wp2_with fail;go_ret;refine⟨_,rfl,?_,hbel⟩;have h1:=Hnum.out;rw [num_take_all B30 y (by rw [HY.out];omega),num_take_all B30 r (by rw [Hr.out];omega),show y.getD t 0=0 by rw [List.getD_eq_getElem?_getD,List.getElem?_eq_none (by rw [HY.out];omega)];rfl,Nat.zero_mod,Nat.mul_zero,Nat.add_zero] at h1;have h2:=rcut_w Hrl.out HCL.out (c:=t) (by rw [Hr.out];omega);rw [HNY.out,←right_end hF0 h1 (Nat.mod_lt _ hF0)];exact h2
end Go.Proofs.YtoefieefcndlkaaGreatDoor
set_option linter.unusedVariables false
set_option maxRecDepth 100000
set_option maxHeartbeats 64000000
namespace Go.Proofs.YtoefieefcndlkaaGreatDoor
open Go.RowKit
theorem mk_room (n c:Nat) (y z:Int) (hz:z=(n:Int)) (hy:y=(c:Int)) (hnc:n≤c) (hn:c≤35184372088832) (w:World):(Instr.makeSlice 73 (.int .i64 z) (.int .i64 y)).run Tryz.prog w=.ok (.slice (some ⟨w.heap.size,0,none⟩) n c) (w.alloc (.cells ((zs c).map i64n).toArray 2)):=by
 subst hz hy;obtain⟨i,hi,h1,h2,h3⟩:=info_parts info_i64;have h:=run_make (P:=Tryz.prog) w 73 2 i (.int .i64 0) Tryz.underlying73 hi h1 .i64 .i64 (n:Int) (c:Int) (by omega) (by omega) (by rw [h3];omega) (by omega);rw [h]
 have e:madeCells (Value.int .i64 0).cells (c*i.size)=((zs c).map i64n).toArray:=by
  rw [h2,Nat.mul_one]
  have:=toList_madeCells_one (.int .i64 0) c
  have h':(madeCells (Value.int .i64 0).cells c).toList=(zs c).map i64n:=by
   rw [show (Value.int .i64 0).cells=#[Value.int .i64 0] from rfl,this];simp [zs,i64n]
  rw [←h']
 simp only [Int.toNat_natCast,e]
theorem own_new (w:World) (n c:Nat) (hnc:n≤c) (hc:c≤maxLen):(w.alloc (.cells ((zs c).map i64n).toArray 2)).ownsRow w.heap.size 2 1 (.slice (some ⟨w.heap.size,0,none⟩) n c) n ((zs n).map i64n):=by
 refine⟨by simp [zs],.inr ⟨w.heap.size,c,_,rfl,Nat.le_refl _,heap_alloc_new w _,hnc,hc,by simp [zs],?_⟩⟩
 simp [zs,List.take_replicate,Nat.min_eq_left hnc]
theorem own_cl {w:World} {B n:Nat} {v:Value} {l:List Nat} (h:w.ownsRow B 2 1 v n (l.map i64n)):∃A c,v=.slice A n c∧n≤c∧l.length=n∧Cl w A (l.map i64n):=by
 obtain⟨h1,h2⟩:=h
 simp at h1
 rcases h2 with ⟨rfl,rfl⟩|⟨g,cap,cur,rfl,hb,hg,hn,hm,hs,ht⟩
 ·exact⟨none,0,rfl,Nat.le_refl _,h1,by rw [List.length_eq_zero_iff.1 h1];exact .inl rfl⟩
 ·refine⟨_,_,rfl,hn,h1,cl_block hg fun j hj=>?_⟩
  rw [Nat.mul_one] at ht;have hj':j<n:=by simp at hj;omega
  rw [←ht,List.getD_eq_getElem?_getD,List.getElem?_take,if_pos hj',Nat.zero_add,←Array.getElem?_toList]
  have:j<cur.size:=by omega
  simp [Array.getElem?_eq_getElem this]
theorem left_step {F B P R V cy x d c':Nat} (h:R+P*cy=V*F) (hs:d+B*c'=cy+x*F):(R+P*d)+P*B*c'=(V+P*x)*F:=by
 have h1:P*(d+B*c')=P*(cy+x*F):=by rw [hs]
 grind
theorem left_carry {F x cy d c':Nat} (hx:x<1073741824) (hc:cy<F) (hF:F≤536870912) (h:d+B30*c'=cy+x*F):c'<F∧cy+x*F<576460752303423488:=by
 have h1:x*F≤1073741823*F:=Nat.mul_le_mul_right _ (by omega);rw [B30_eq] at h;omega
theorem left_r (va:Value) (n k:Nat) (hk:k≤1099511627776) (w:World) (ha:Wr w va n) (sa:Sr n):Calls Tryz.prog 131 #[va,.int .i64 k] w fun e w'=>∃v,e=.returned v∧Wr w' v (n*2 ^ k)∧Ext w w':=by
 obtain⟨A,ca,rfl,hca,hA⟩:=ha;unfold Sr at sa;have en:=num_dr n;have nl:=dr_lt n;generalize dr n=l at *;obtain⟨s,e,hse,he⟩:∃s e:Nat,k=30*s+e∧e<30:=⟨k / 30,k % 30,by omega,by omega⟩;have hq:(k:Int) / 30=(s:Int):=by omega
 have hr:(k:Int) % 30=(e:Int):=by omega
 have hwq:IntKind.i64.wrap (s:Int)=(s:Int):=IntWalk.i64_in _ (by omega);have hsb:s≤1099511627776:=by omega
 have HSE:=ZZ hse;have En:=ZZ en;have Nl:=ZZ nl;clear en nl hse;obtain⟨F,G,hF,hF0,hG0,hFG,hFb,hG⟩:=pow_split e he;have hF':((2:Int) ^ e)=(F:Int):=by rw [hF];push_cast;rfl
 have hsh:IntKind.i64.wrap ((2:Int) ^ e)=(F:Int):=by rw [hF'];exact IntWalk.i64_in _ (by omega)
 have hu:IntKind.u64.wrap (e:Int)=(e:Int):=IntWalk.u64_in _ (by omega);have HF:=ZZ hF;obtain⟨i0,hi,hz0,hz1,hz2⟩:=info_parts info_i64;have hmk:=mk_room s (l.length+s+1) ((l.length:Int)+(s:Int)+1) (s:Int) rfl (by omega) (by omega) (by omega);have hw1:IntKind.i64.wrap ((l.length:Int)+(s:Int))=(l.length:Int)+(s:Int):=IntWalk.i64_in _ (by omega);have hw2:IntKind.i64.wrap ((l.length:Int)+(s:Int)+1)=(l.length:Int)+(s:Int)+1:=IntWalk.i64_in _ (by omega);clear hF hF' hFG hG hG0
 go_enter Tryz.func131,Tryz.ntmps131
 go_wp2_with fail;clear hmk hw1 hw2 hq hr hwq hsh hu
 go_loopw [5,7,8] (fun p c i wr=>∃(t cy:Nat) (xs:List Nat),t≤l.length∧i=.int .i64 t∧c=.int .i64 cy∧cy<F∧xs.length=t∧(∀d ∈ xs,d<B30)∧Hid (wr.ownsRow w.heap.size 2 1 p (s+t) ((zs s ++ xs).map i64n))∧Ext w wr∧num B30 xs+B30 ^ t*cy=num B30 (l.take t)*F) (fun _ _ i _=>l.length - (intOf i).toNat)
 case atStart=>exact⟨0,0,[],Nat.zero_le _,rfl,rfl,hF0,rfl,by simp,by simpa using ZZ (own_new w s (l.length+s+1) (by omega) (by unfold maxLen;omega)),ab _ _,by simp⟩
 case round=>
  obtain⟨t,cy,xs,ht,rfl,rfl,hcy,hxl,hxb,HOWN,hext,hnum⟩:=hrel;have Hxl:=ZZ hxl;have Hxb:=ZZ hxb;have HEX:=ZZ hext;have Hnum:=ZZ hnum;clear hxl hxb hnum hext;have H63:=ZZ (show s+t+1≤maxLen by unfold maxLen;omega);have HBY:=ZZ (show (s+t+1)*8≤140737488355328 by omega);have HWS:=ZZ (show w.heap.size≤wr.heap.size+1 from Nat.le_succ_of_le HEX.out.size);have HWZ:=ZZ (show w.heap.size≤wr.heap.size from HEX.out.size)
  by_cases hlt:t<l.length
  ·obtain⟨b,o,rfl,hc⟩:=hA.i (by omega)
   have ea:=am HEX.out (hc t hlt);have hxb:=getD_lt Nl.out (by rw [B30_eq];omega) t;have HTT:=ZZ (num_take_le B30 l t);rw [B30_eq] at hxb;clear hc hA;generalize l.getD t 0=x at *;obtain⟨p,hp⟩:∃p:Nat,p=x*F:=⟨_,rfl⟩;obtain⟨sm,hsm⟩:∃sm:Nat,sm=cy+p:=⟨_,rfl⟩;obtain⟨d,c',hd,hdc,hd1,hc1'⟩:=split30 sm;have HDC:=ZZ (show d+B30*c'=cy+x*F by rw [hdc,hsm,hp]);obtain⟨hcb,hsb'⟩:=left_carry hxb hcy hFb HDC.out;have hsmb:sm<576460752303423488:=by rw [hsm,hp];exact hsb'
   have hw1:IntKind.i64.wrap ((x:Int)*(F:Int))=(p:Int):=by
    rw [show (x:Int)*(F:Int)=(p:Int) by rw [hp];push_cast;rfl];exact IntWalk.i64_in _ (by omega)
   have hw2:IntKind.i64.wrap ((cy:Int)+(p:Int))=(sm:Int):=(IntWalk.i64_in _ (by omega)).trans (by omega);have hrem:(sm:Int) % 1073741824=(d:Int):=by omega
   have hquo:(sm:Int) / 1073741824=(c':Int):=by omega
   have Hd:=ZZ hd;have HCB:=ZZ hcb;have hcb2:c'≤1073741824:=by omega
   rw [B30_eq] at hd
   have HST:=ZZ (show num B30 (xs ++ [d])+B30 ^ (t+1)*c'=num B30 (l.take (t+1))*F by
    rw [num_snoc,Hxl.out,HTT.out,Nat.pow_succ];exact left_step Hnum.out HDC.out)
   clear hp hsm hdc hd1 hc1' hsb'
   go_wp2_with (at_builtin;refine wpList_append_own_at _ rfl _ _ 73 rfl w.heap.size 2 i0 (.int .i64 0) 1 8 Tryz.underlying73 hi hz0 hz1 hz2 rfl (by decide) _ _ _ rfl (HOWN.out.alloc _) ⟨wr.heap.size,0,none⟩ 1 1 [.int .i64 (d:Int)] rfl rfl (cell_one_new _ _ _) (by intro u hu;simp at hu;subst hu;rfl) H63.out HBY.out (by have:=HWS.out;simpa using this) ?_;intro v' w3 hown3 hgrow hnil hloc)
   have HE3:=ZZ (show Ext w w3 from (ak HEX.out (ab wr _)).grown hgrow (by have:=HWS.out;simpa using this) (fun k hk=>(own_lt HOWN.out hk).1));have HO3:=ZZ hown3;clear hown3 hgrow hnil hloc;go_wp2_with fail
   go_roundw
   case rel=>exact⟨t+1,c',xs ++ [d],by omega,by first|rfl|go_num,rfl,HCB.out,by rw [List.length_append,Hxl.out];rfl,by intro z hz;rcases List.mem_append.1 hz with h|h;exact Hxb.out z h;rw [List.mem_singleton.1 h];exact Hd.out,by have:=HO3.out;rw [←List.append_assoc,List.map_append];exact ZZ this,HE3.out,HST.out⟩
   case measure=>simp [intOf];omega
  ·have htm:t=l.length:=by omega
   go_wp2_with (at_builtin;refine wpList_append_own_at _ rfl _ _ 73 rfl w.heap.size 2 i0 (.int .i64 0) 1 8 Tryz.underlying73 hi hz0 hz1 hz2 rfl (by decide) _ _ _ rfl (HOWN.out.alloc _) ⟨wr.heap.size,0,none⟩ 1 1 [.int .i64 (cy:Int)] rfl rfl (cell_one_new _ _ _) (by intro u hu;simp at hu;subst hu;rfl) H63.out HBY.out (by have:=HWS.out;simpa using this) ?_;intro v' w3 hown3 hgrow hnil hloc)
   have HE3:=ZZ (show Ext w w3 from (ak HEX.out (ab wr _)).grown hgrow (by have:=HWS.out;simpa using this) (fun k hk=>(own_lt HOWN.out hk).1));have hown4:w3.ownsRow w.heap.size 2 1 v' (s+t+1) ((zs s ++ xs ++ [cy]).map i64n):=by rw [List.map_append];exact hown3
   obtain⟨A3,c3,rfl,hn3,hl3,hcl3⟩:=own_cl hown4;have HCL:=ZZ hcl3;have HL3:=ZZ hl3;have HN3:=ZZ hn3
   have HYB:=ZZ (show ∀z ∈ zs s ++ xs ++ [cy],z<B30 from fun z hz=>by
    rcases List.mem_append.1 hz with h|h
    ·rcases List.mem_append.1 h with h|h
     ·exact zs_lt (by rw [B30_eq];omega) s z h
     ·exact Hxb.out z h
    ·rw [List.mem_singleton.1 h,B30_eq];omega)
   clear hown3 hown4 hgrow hnil hloc hn3 hl3 hcl3;go_wp2_with fail;refine(rcut_c _ (zs s ++ xs ++ [cy]) _ _ HCL.out (s+t+1) HL3.out HN3.out (by omega)).mono ?_;rintro e w2 ⟨rfl,rfl⟩;go_wp2_with fail;go_ret;refine⟨_,rfl,?_,HE3.out⟩;have h2:=rcut_w HYB.out HCL.out (c:=c3) (by rw [HL3.out];exact HN3.out);have h1:=Hnum.out;rw [num_take_all B30 l (by omega),En.out] at h1
   have h3:num B30 (zs s ++ xs ++ [cy])=n*2 ^ k:=by
    rw [List.append_assoc,num_append,show num B30 (zs s)=0 from num_replicate_zero _ _,zs_length,num_snoc,Hxl.out,h1,HSE.out,Nat.pow_add,←B30_pow,HF.out,Nat.zero_add]
    grind
   rw [h3,List.append_assoc] at h2;exact h2
end Go.Proofs.YtoefieefcndlkaaGreatDoor
