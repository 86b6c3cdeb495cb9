/- The program's natural numbers: take and give (a multiple is subtracted, or added, in place). The reference's natural numbers: sums, differences, products. Printed by gen_rb.py. -/
import Derived.Test.YtoefieefcndlkaaGreatDoorGWf
set_option linter.unusedVariables false
set_option maxRecDepth 100000
set_option maxHeartbeats 64000000
namespace Go.Proofs.YtoefieefcndlkaaGreatDoor
open Go.RowKit
def PkU (w:World) (g:Nat) (l:List Nat):Prop:=∃cs:Array Value,w.heap[g]?=some (.cells cs 97 (0,0))∧l.length≤cs.size∧∀i,i<l.length→cs[i]?=some (.int .u64 ((l.getD i 0:Nat):Int))
theorem BkU.pk {w:World} {g:Nat} {l:List Nat} (h:BkU w g l):PkU w g l:=
 ⟨_,h,by simp,fun i hi=>by simp [hi,u64,List.getD_eq_getElem?_getD]⟩
theorem PkU.lt {w:World} {g:Nat} {l:List Nat} (h:PkU w g l):g<w.heap.size:=by
 obtain⟨cs,h,_⟩:=h
 rcases Nat.lt_or_ge g w.heap.size with hlt|hge
 ·exact hlt
 ·rw [Array.getElem?_eq_none hge] at h;cases h
theorem PkU.cell {w:World} {g:Nat} {l:List Nat} (h:PkU w g l) (i:Nat) (hi:i<l.length):w.cell? ⟨g,i,none⟩=some (.int .u64 ((l.getD i 0:Nat):Int)):=by
 obtain⟨cs,h1,h2,h3⟩:=h;rw [cell_of_row w g i _ _ _ h1];exact h3 i hi
theorem PkU.frozen {w:World} {g:Nat} {l:List Nat} (h:PkU w g l) (i:Nat):w.frozen? ⟨g,i,none⟩=false:=by
 obtain⟨cs,h1,h2,h3⟩:=h;exact frozen_of_row w g i _ _ h1
theorem PkU.set_ {w:World} {g:Nat} {l:List Nat} (h:PkU w g l) (i v:Nat) (hi:i<l.length):PkU (w.setCell ⟨g,i,none⟩ (.int .u64 (v:Int))) g (l.set i v):=by
 obtain⟨cs,h1,h2,h3⟩:=h;refine⟨cs.setIfInBounds i (.int .u64 (v:Int)),?_,by simpa using h2,fun j hj=>?_⟩
 ·simp only [World.setCell,Array.getElem?_modify,h1];simp
 ·simp only [List.length_set] at hj
  rw [Array.getElem?_setIfInBounds]
  by_cases e:i=j
  ·subst e
   rw [if_pos rfl,if_pos (by omega)]
   simp [List.getD_eq_getElem?_getD,hi]
  ·rw [if_neg e,h3 j hj,getD_set_ne e]
theorem PkU.same {w w':World} {g:Nat} {l:List Nat} (h:PkU w g l) (e:w'.heap[g]?=w.heap[g]?):PkU w' g l:=by
 obtain⟨cs,h1,h2,h3⟩:=h;exact⟨cs,e.trans h1,h2,h3⟩
theorem PkU.ext {w w':World} {g:Nat} {l:List Nat} (h:PkU w g l) (k:Ext w w'):PkU w' g l:=h.same (k.block g h.lt)
theorem PkU.take_ {w:World} {g:Nat} {l:List Nat} (h:PkU w g l) (k:Nat):PkU w g (l.take k):=by
 obtain⟨cs,h1,h2,h3⟩:=h;refine⟨cs,h1,by simp;omega,fun i hi=>?_⟩;rw [List.length_take] at hi;have h4:i<k:=by omega
 rw [h3 i (by omega)]
 simp [List.getD_eq_getElem?_getD,h4]
theorem PkU.cl {w:World} {g:Nat} {l:List Nat} (h:PkU w g l):Cl w (some ⟨g,0,none⟩) (l.map u64):=by
 obtain⟨cs,h1,h2,h3⟩:=h
 exact cl_block h1 (fun j hj=>by
  simp only [List.length_map] at hj
  rw [Nat.zero_add,h3 j hj,getD_map_u64 l j hj])
theorem grown_setCell {w w':World} {g:Nat} (h:w.grownBy w' (some g)) (i:Nat) (v:Value):w.grownBy (w'.setCell ⟨g,i,none⟩ v) (some g):=
 ⟨h.os,h.tape,h.output,by simpa [World.setCell] using h.size,fun k hk hne=>(Below.heap_setCell w' _ v k (by rintro rfl;exact hne rfl)).trans (h.block k hk hne)⟩
theorem mul_bounds2 {B x y cy hi lo s1 c1:Nat} (hx:x<B) (hy:y<B) (hcy:cy<B) (h0:hi*B+lo=x*y) (h1:s1+B*c1=lo+cy+0):hi+c1<B∧s1+B*(hi+c1)=x*y+cy:=by
 have e:s1+B*(hi+c1)=x*y+cy:=by grind
 have hxy:x*y≤(B - 1)*(B - 1):=Nat.mul_le_mul (by omega) (by omega);refine⟨?_,e⟩
 rcases Nat.lt_or_ge (hi+c1) B with h|h
 ·exact h
 ·have h3:B*B≤B*(hi+c1):=Nat.mul_le_mul_left _ h
  obtain⟨b,rfl⟩:∃b,B=b+1:=⟨B - 1,by omega⟩
  simp only [Nat.add_sub_cancel] at hxy
  have h4:(b+1)*(b+1)=b*b+2*b+1:=by grind
  omega
theorem take_step {R R' N P Q B t x old new cy bw cy' bw' s:Nat} {V:Nat} (h:R+P*(t*V)=N+P*Q*(cy+bw)) (h1:s+B*cy'=x*t+cy) (h2:new+s+bw=old+B*bw') (h3:R'+P*Q*old=R+P*Q*new):R'+P*(t*(V+Q*x))=N+P*(Q*B)*(cy'+bw'):=by
 have h4:P*Q*(new+s+bw)=P*Q*(old+B*bw'):=by rw [h2]
 have h5:P*Q*(s+B*cy')=P*Q*(x*t+cy):=by rw [h1]
 clear h1 h2;grind
theorem give_step {R R' N P Q B t x old new cy mr cy' mr' s:Nat} {V:Nat} (h:R+P*Q*(cy+mr)=N+P*(t*V)) (h1:s+B*cy'=x*t+cy) (h2:new+B*mr'=old+s+mr) (h3:R'+P*Q*old=R+P*Q*new):R'+P*(Q*B)*(cy'+mr')=N+P*(t*(V+Q*x)):=by
 have h4:P*Q*(new+B*mr')=P*Q*(old+s+mr):=by rw [h2]
 have h5:P*Q*(s+B*cy')=P*Q*(x*t+cy):=by rw [h1]
 clear h1 h2;grind
theorem take_last {R R' N P Q B V t old new cy bw bw':Nat} (h:R+P*(t*V)=N+P*Q*(cy+bw)) (h2:new+cy+bw=old+B*bw') (h3:R'+P*Q*old=R+P*Q*new):R'+P*(t*V)=N+P*(Q*B)*bw':=by
 have h4:P*Q*(new+cy+bw)=P*Q*(old+B*bw'):=by rw [h2]
 clear h2;grind
theorem give_last {R R' N P Q B V t old new cy bw bw':Nat} (h:R+P*Q*(cy+bw)=N+P*(t*V)) (h2:new+B*bw'=old+cy+bw) (h3:R'+P*Q*old=R+P*Q*new):R'+P*(Q*B)*bw'=N+P*(t*V):=by
 have h4:P*Q*(new+B*bw')=P*Q*(old+cy+bw):=by rw [h2]
 clear h2;grind
theorem take_c (g o nu cu gv cv n t:Nat) (us vs:List Nat) (w:World) (hU:PkU w g us) (hus:∀d ∈ us,d<B64) (ho:o+n+1≤us.length) (hnu:n+1≤nu) (hou:us.length≤35184372088832) (hV:Cl w (some ⟨gv,0,none⟩) (vs.map u64)) (hvs:∀d ∈ vs,d<B64) (hn:vs.length=n) (hne:gv≠g) (ht:t<B64):Calls Tryz.prog 151 #[.slice (some ⟨g,o,none⟩) nu cu,.slice (some ⟨gv,0,none⟩) n cv,.int .u64 t] w fun e w'=>∃(us':List Nat) (b:Bool),e=.returned (.bool b)∧us'.length=us.length∧(∀d ∈ us',d<B64)∧PkU w' g us'∧w.grownBy w' (some g)∧(∀i,i<o∨o+n<i→us'.getD i 0=us.getD i 0)∧num B64 us'+B64 ^ o*(t*num B64 vs)=num B64 us+B64 ^ (o+n+1)*(if b then 1 else 0):=by
 have HV:Hid (∀j,j<n→w.cell? ⟨gv,j,none⟩=some (.int .u64 ((vs.getD j 0:Nat):Int))):=fun j hj=>by
  obtain⟨b,o',e,hc⟩:=hV.u (by rw [hn];omega)
  simp only [Option.some.injEq,Addr.mk.injEq,and_true] at e
  obtain⟨rfl,rfl⟩:=e
  have:=hc j (by rw [hn];exact hj)
  simpa using this
 have Hn:=ZZ hn;have Hus:=ZZ hus;have Hvs:=ZZ hvs;have Ht:=ZZ ht;have HU:=ZZ hU;have hgl:=hU.lt;clear hn hus hvs ht hU hV
 go_enter Tryz.func151,Tryz.ntmps151
 go_wp2
 go_loopw [7,8,16] (fun c b i wr=>∃(k cy bw:Nat) (r:List Nat),k≤n∧i=.int .i64 k∧c=.int .u64 cy∧b=.int .u64 bw∧cy<B64∧bw≤1∧r.length=us.length∧(∀d ∈ r,d<B64)∧PkU wr g r∧w.grownBy wr (some g)∧(∀i,i<o∨o+n<i→r.getD i 0=us.getD i 0)∧num B64 r+B64 ^ o*(t*num B64 (vs.take k))=num B64 us+B64 ^ o*B64 ^ k*(cy+bw)) (fun _ _ i _=>n - (intOf i).toNat)
 case atStart=>exact⟨0,0,0,us,Nat.zero_le _,rfl,rfl,rfl,by rw [B64_eq];omega,by omega,rfl,Hus.out,HU.out,World.grownBy.refl _ _,fun _ _=>rfl,by simp⟩
 case round=>
  obtain⟨k,cy,bw,r,hk,rfl,rfl,rfl,hcy,hbw,hr,hrl,hpk,hgr,hout,hnum⟩:=hrel;have Hr:=ZZ hr;have Hrl:=ZZ hrl;have Hpk:=ZZ hpk;have Hnum:=ZZ hnum;have Hout:=ZZ hout;have Hcy:=ZZ hcy;clear hr hrl hpk hnum hout hcy
  by_cases hlt:k<n
  ·have ea:wr.cell? ⟨gv,k,none⟩=some (.int .u64 ((vs.getD k 0:Nat):Int)):=hgr.cell (HV.out k hlt) (by simpa using hne)
   have hxl:=getD_lt Hvs.out (by rw [B64_eq];omega) k;have Htk:Hid (num B64 (vs.take (k+1))=num B64 (vs.take k)+B64 ^ k*vs.getD k 0):=num_take_le _ _ _;generalize vs.getD k 0=x at *;have hci:=Hpk.out.cell (o+k) (by rw [Hr.out];omega);have hfi:=Hpk.out.frozen (o+k);have hol:=getD_lt Hrl.out (by rw [B64_eq];omega) (o+k);have Hns:=ZZ (fun s=>num_set B64 r (o+k) s (by rw [Hr.out];omega));generalize r.getD (o+k) 0=old at *;have Hxl:=ZZ hxl;have Hol:=ZZ hol;clear hxl hol;go_wp2_with fail;refine(mul64_c x t Hxl.out Ht.out _).mono ?_;rintro e w1 ⟨⟨hi,lo,rfl,hhl,hhi,hlo⟩,rfl⟩;obtain⟨s1,c1,hs1,hc1,hsc1,hrun1⟩:=run_add lo cy 0 (by omega) hlo Hcy.out;obtain⟨s2,c2,hs2,hc2,hsc2,hrun2⟩:=run_sub old s1 bw hbw Hol.out hs1;have hrun1':∀w,(callFunc 144 #[.int .u64 lo,.int .u64 cy,.int .u64 0]).run Tryz.prog w=.ok (.value (.tuple #[.int .u64 s1,.int .u64 c1])) w:=hrun1;obtain⟨b1,b2⟩:=mul_bounds2 Hxl.out Ht.out Hcy.out hhl hsc1;obtain⟨h2,hh2⟩:∃z,z=hi+c1:=⟨_,rfl⟩;rw [←hh2] at b1 b2
   have hw1:IntKind.u64.wrap ((hi:Int)+(c1:Int))=((h2:Nat):Int):=by
    rw [IntWalk.u64_in _ (by rw [B64_eq] at b1;omega)];omega
   have B1:=ZZ b1;have B2:=ZZ b2;have Hs2:=ZZ hs2;have Hsc2:=ZZ hsc2;have Hset:=ZZ (Hpk.out.set_ (o+k) s2 (by rw [Hr.out];omega));clear hrun1 hsc1 hsc2 b1 b2 hh2 hs1 hs2 hhl hhi hlo hc1
   go_wp2
   go_roundw
   case rel=>
    refine⟨k+1,h2,c2,r.set (o+k) s2,by omega,by go_num,rfl,rfl,B1.out,hc2,by rw [List.length_set,Hr.out],set_lt Hrl.out Hs2.out _,Hset.out,grown_setCell hgr _ _,fun i hi=>by rw [getD_set_ne (by omega)];exact Hout.out i hi,?_⟩;have h5:=Hns.out s2;rw [Nat.pow_add] at h5;rw [Htk.out,Nat.pow_succ];exact take_step Hnum.out B2.out Hsc2.out h5
   case measure=>simp [intOf];omega
  ·have hkn:k=n:=by omega
   subst hkn;have hci:=Hpk.out.cell (o+k) (by rw [Hr.out];omega);have hfi:=Hpk.out.frozen (o+k);have hol:=getD_lt Hrl.out (by rw [B64_eq];omega) (o+k);have Hns:=ZZ (fun s=>num_set B64 r (o+k) s (by rw [Hr.out];omega));generalize r.getD (o+k) 0=old at *;obtain⟨s2,c2,hs2,hc2,hsc2,hrun2⟩:=run_sub old cy bw hbw hol Hcy.out;have Hs2:=ZZ hs2;have Hsc2:=ZZ hsc2;have Hset:=ZZ (Hpk.out.set_ (o+k) s2 (by rw [Hr.out];omega))
   have hfin:num B64 (r.set (o+k) s2)+B64 ^ o*(t*num B64 vs)=num B64 us+B64 ^ (o+k+1)*c2:=by
    have h5:=num_set B64 r (o+k) s2 (by rw [Hr.out];omega);have h5:=Hns.out s2;rw [Nat.pow_add] at h5;have h6:=Hnum.out;rw [num_take_all B64 vs (by rw [Hn.out];omega)] at h6;rw [show o+k+1=o+(k+1) by omega,Nat.pow_add,Nat.pow_succ];exact take_last h6 hsc2 h5
   have Hfin:=ZZ hfin;have hbit:c2=0∨c2=1:=by omega
   clear hsc2 hs2 hol hfin
   rcases hbit with rfl|rfl
   ·go_wp2
    go_ret;refine⟨r.set (o+k) s2,false,by first|rfl|simp,by rw [List.length_set,Hr.out],set_lt Hrl.out Hs2.out _,Hset.out,grown_setCell hgr _ _,fun i hi=>by rw [getD_set_ne (by omega)];exact Hout.out i hi,?_⟩
    rw [if_neg (by decide)];exact Hfin.out
   ·go_wp2
    go_ret;refine⟨r.set (o+k) s2,true,by first|rfl|simp,by rw [List.length_set,Hr.out],set_lt Hrl.out Hs2.out _,Hset.out,grown_setCell hgr _ _,fun i hi=>by rw [getD_set_ne (by omega)];exact Hout.out i hi,?_⟩
    rw [if_pos rfl];exact Hfin.out
theorem give_c (g o nu cu gv cv n t:Nat) (us vs:List Nat) (w:World) (hU:PkU w g us) (hus:∀d ∈ us,d<B64) (ho:o+n+1≤us.length) (hnu:n+1≤nu) (hou:us.length≤35184372088832) (hV:Cl w (some ⟨gv,0,none⟩) (vs.map u64)) (hvs:∀d ∈ vs,d<B64) (hn:vs.length=n) (hne:gv≠g) (ht:t<B64):Calls Tryz.prog 152 #[.slice (some ⟨g,o,none⟩) nu cu,.slice (some ⟨gv,0,none⟩) n cv,.int .u64 t] w fun e w'=>∃(us':List Nat) (b:Bool),e=.returned (.tuple #[])∧us'.length=us.length∧(∀d ∈ us',d<B64)∧PkU w' g us'∧w.grownBy w' (some g)∧(∀i,i<o∨o+n<i→us'.getD i 0=us.getD i 0)∧num B64 us'+B64 ^ (o+n+1)*(if b then 1 else 0)=num B64 us+B64 ^ o*(t*num B64 vs):=by
 have HV:Hid (∀j,j<n→w.cell? ⟨gv,j,none⟩=some (.int .u64 ((vs.getD j 0:Nat):Int))):=fun j hj=>by
  obtain⟨b,o',e,hc⟩:=hV.u (by rw [hn];omega)
  simp only [Option.some.injEq,Addr.mk.injEq,and_true] at e
  obtain⟨rfl,rfl⟩:=e
  have:=hc j (by rw [hn];exact hj)
  simpa using this
 have Hn:=ZZ hn;have Hus:=ZZ hus;have Hvs:=ZZ hvs;have Ht:=ZZ ht;have HU:=ZZ hU;have hgl:=hU.lt;clear hn hus hvs ht hU hV
 go_enter Tryz.func152,Tryz.ntmps152
 go_wp2
 go_loopw [6,7,15] (fun c b i wr=>∃(k cy bw:Nat) (r:List Nat),k≤n∧i=.int .i64 k∧c=.int .u64 cy∧b=.int .u64 bw∧cy<B64∧bw≤1∧r.length=us.length∧(∀d ∈ r,d<B64)∧PkU wr g r∧w.grownBy wr (some g)∧(∀i,i<o∨o+n<i→r.getD i 0=us.getD i 0)∧num B64 r+B64 ^ o*B64 ^ k*(cy+bw)=num B64 us+B64 ^ o*(t*num B64 (vs.take k))) (fun _ _ i _=>n - (intOf i).toNat)
 case atStart=>exact⟨0,0,0,us,Nat.zero_le _,rfl,rfl,rfl,by rw [B64_eq];omega,by omega,rfl,Hus.out,HU.out,World.grownBy.refl _ _,fun _ _=>rfl,by simp⟩
 case round=>
  obtain⟨k,cy,bw,r,hk,rfl,rfl,rfl,hcy,hbw,hr,hrl,hpk,hgr,hout,hnum⟩:=hrel;have Hr:=ZZ hr;have Hrl:=ZZ hrl;have Hpk:=ZZ hpk;have Hnum:=ZZ hnum;have Hout:=ZZ hout;have Hcy:=ZZ hcy;clear hr hrl hpk hnum hout hcy
  by_cases hlt:k<n
  ·have ea:wr.cell? ⟨gv,k,none⟩=some (.int .u64 ((vs.getD k 0:Nat):Int)):=hgr.cell (HV.out k hlt) (by simpa using hne)
   have hxl:=getD_lt Hvs.out (by rw [B64_eq];omega) k;have Htk:Hid (num B64 (vs.take (k+1))=num B64 (vs.take k)+B64 ^ k*vs.getD k 0):=num_take_le _ _ _;generalize vs.getD k 0=x at *;have hci:=Hpk.out.cell (o+k) (by rw [Hr.out];omega);have hfi:=Hpk.out.frozen (o+k);have hol:=getD_lt Hrl.out (by rw [B64_eq];omega) (o+k);have Hns:=ZZ (fun s=>num_set B64 r (o+k) s (by rw [Hr.out];omega));generalize r.getD (o+k) 0=old at *;have Hxl:=ZZ hxl;have Hol:=ZZ hol;clear hxl hol;go_wp2_with fail;refine(mul64_c x t Hxl.out Ht.out _).mono ?_;rintro e w1 ⟨⟨hi,lo,rfl,hhl,hhi,hlo⟩,rfl⟩;obtain⟨s1,c1,hs1,hc1,hsc1,hrun1⟩:=run_add lo cy 0 (by omega) hlo Hcy.out;obtain⟨s2,c2,hs2,hc2,hsc2,hrun2⟩:=run_add old s1 bw hbw Hol.out hs1;have hrun1':∀w,(callFunc 144 #[.int .u64 lo,.int .u64 cy,.int .u64 0]).run Tryz.prog w=.ok (.value (.tuple #[.int .u64 s1,.int .u64 c1])) w:=hrun1;obtain⟨b1,b2⟩:=mul_bounds2 Hxl.out Ht.out Hcy.out hhl hsc1;obtain⟨h2,hh2⟩:∃z,z=hi+c1:=⟨_,rfl⟩;rw [←hh2] at b1 b2
   have hw1:IntKind.u64.wrap ((hi:Int)+(c1:Int))=((h2:Nat):Int):=by
    rw [IntWalk.u64_in _ (by rw [B64_eq] at b1;omega)];omega
   have B1:=ZZ b1;have B2:=ZZ b2;have Hs2:=ZZ hs2;have Hsc2:=ZZ hsc2;have Hset:=ZZ (Hpk.out.set_ (o+k) s2 (by rw [Hr.out];omega));clear hrun1 hsc1 hsc2 b1 b2 hh2 hs1 hs2 hhl hhi hlo hc1
   go_wp2
   go_roundw
   case rel=>
    refine⟨k+1,h2,c2,r.set (o+k) s2,by omega,by go_num,rfl,rfl,B1.out,hc2,by rw [List.length_set,Hr.out],set_lt Hrl.out Hs2.out _,Hset.out,grown_setCell hgr _ _,fun i hi=>by rw [getD_set_ne (by omega)];exact Hout.out i hi,?_⟩;have h5:=Hns.out s2;rw [Nat.pow_add] at h5;rw [Htk.out,Nat.pow_succ];exact give_step Hnum.out B2.out Hsc2.out h5
   case measure=>simp [intOf];omega
  ·have hkn:k=n:=by omega
   subst hkn;have hci:=Hpk.out.cell (o+k) (by rw [Hr.out];omega);have hfi:=Hpk.out.frozen (o+k);have hol:=getD_lt Hrl.out (by rw [B64_eq];omega) (o+k);have Hns:=ZZ (fun s=>num_set B64 r (o+k) s (by rw [Hr.out];omega));generalize r.getD (o+k) 0=old at *;obtain⟨s2,c2,hs2,hc2,hsc2,hrun2⟩:=run_add old cy bw hbw hol Hcy.out;have Hs2:=ZZ hs2;have Hsc2:=ZZ hsc2;have Hset:=ZZ (Hpk.out.set_ (o+k) s2 (by rw [Hr.out];omega))
   have hfin:num B64 (r.set (o+k) s2)+B64 ^ (o+k+1)*c2=num B64 us+B64 ^ o*(t*num B64 vs):=by
    have h5:=num_set B64 r (o+k) s2 (by rw [Hr.out];omega);have h5:=Hns.out s2;rw [Nat.pow_add] at h5;have h6:=Hnum.out;rw [num_take_all B64 vs (by rw [Hn.out];omega)] at h6;rw [show o+k+1=o+(k+1) by omega,Nat.pow_add,Nat.pow_succ];exact give_last h6 hsc2 h5
   have Hfin:=ZZ hfin;have hbit:c2=0∨c2=1:=by omega
   clear hsc2 hs2 hol hfin
   rcases hbit with rfl|rfl
   ·go_wp2
    go_end0
    refine⟨r.set (o+k) s2,false,by first|rfl|simp,by rw [List.length_set,Hr.out],set_lt Hrl.out Hs2.out _,Hset.out,grown_setCell hgr _ _,fun i hi=>by rw [getD_set_ne (by omega)];exact Hout.out i hi,?_⟩;rw [if_neg (by decide)];exact Hfin.out
   ·go_wp2
    go_end0
    refine⟨r.set (o+k) s2,true,by first|rfl|simp,by rw [List.length_set,Hr.out],set_lt Hrl.out Hs2.out _,Hset.out,grown_setCell hgr _ _,fun i hi=>by rw [getD_set_ne (by omega)];exact Hout.out i hi,?_⟩;rw [if_pos rfl];exact Hfin.out
end Go.Proofs.YtoefieefcndlkaaGreatDoor
set_option linter.unusedVariables false
set_option maxRecDepth 100000
set_option maxHeartbeats 64000000
namespace Go.Proofs.YtoefieefcndlkaaGreatDoor
open Go.RowKit
theorem info_i64:(Tryz.prog.info? 2).map (fun i=>(i.zero,i.size,i.bytes))=some (some (.int .i64 0),1,8):=by kernel_rfl
theorem mk_digits (n:Nat) (z:Int) (hz:z=(n:Int)) (hn:n≤35184372088832) (w:World):(Instr.makeSlice 73 (.int .i64 z) (.int .i64 z)).run Tryz.prog w=.ok (.slice (some ⟨w.heap.size,0,none⟩) n n) (w.alloc (.cells ((zs n).map i64n).toArray 2)):=by
 subst hz;obtain⟨i,hi,h1,h2,h3⟩:=info_parts info_i64;have h:=run_make (P:=Tryz.prog) w 73 2 i (.int .i64 0) Tryz.underlying73 hi h1 .i64 .i64 (n:Int) (n:Int) (by omega) (Int.le_refl _) (by rw [h3];omega) (by omega);rw [h]
 have e:madeCells (Value.int .i64 0).cells (n*i.size)=((zs n).map i64n).toArray:=by
  rw [h2,Nat.mul_one]
  have:=toList_madeCells_one (.int .i64 0) n
  have h':(madeCells (Value.int .i64 0).cells n).toList=(zs n).map i64n:=by
   rw [show (Value.int .i64 0).cells=#[Value.int .i64 0] from rfl,this];simp [zs,i64n]
  rw [←h']
 simp only [Int.toNat_natCast,e]
def BkI (w:World) (g:Nat) (l:List Nat):Prop:=w.heap[g]?=some (.cells (l.map i64n).toArray 2 (0,0))
theorem BkI.lt {w:World} {g:Nat} {l:List Nat} (h:BkI w g l):g<w.heap.size:=lt_of_block h
theorem BkI.cell {w:World} {g:Nat} {l:List Nat} (h:BkI w g l) (i:Nat) (hi:i<l.length):w.cell? ⟨g,i,none⟩=some (.int .i64 ((l.getD i 0:Nat):Int)):=by
 rw [cell_of_row w g i _ _ _ h];simp [hi,i64n,List.getD_eq_getElem?_getD]
theorem BkI.frozen {w:World} {g:Nat} {l:List Nat} (h:BkI w g l) (i:Nat):w.frozen? ⟨g,i,none⟩=false:=frozen_of_row w g i _ _ h
theorem BkI.new (w:World) (l:List Nat):BkI (w.alloc (.cells (l.map i64n).toArray 2)) w.heap.size l:=heap_alloc_new w _
theorem BkI.set_ {w:World} {g:Nat} {l:List Nat} (h:BkI w g l) (i v:Nat):BkI (w.setCell ⟨g,i,none⟩ (.int .i64 (v:Int))) g (l.set i v):=by
 unfold BkI at h ⊢
 simp only [World.setCell,Array.getElem?_modify,h]
 simp [List.map_set,i64n]
theorem BkI.ext {w w':World} {g:Nat} {l:List Nat} (h:BkI w g l) (k:Ext w w'):BkI w' g l:=(k.block g h.lt).trans h
theorem BkI.cl {w:World} {g:Nat} {l:List Nat} (h:BkI w g l):Cl w (some ⟨g,0,none⟩) (l.map i64n):=
 cl_block h (fun j hj=>by simp [List.getD_eq_getElem?_getD] at hj ⊢;simp [hj])
theorem split30 (s:Nat):∃d c:Nat,d<B30∧d+B30*c=s∧d=s % 1073741824∧c=s / 1073741824:=
 ⟨s % B30,s / B30,Nat.mod_lt _ (by rw [B30_eq];omega),Nat.mod_add_div s B30,rfl,rfl⟩
def Fr (B:Nat) (v:Value):Prop:=∀b,v.ownBlock=some b→B≤b
theorem plus_le (A B:Option Addr) (la lb:List Nat) (ca cb:Nat) (w:World) (n m:Nat) (hn:la.length=n) (hm:lb.length=m) (hA:Cl w A (la.map i64n)) (hB:Cl w B (lb.map i64n)) (hla:∀d ∈ la,d<B30) (hlb:∀d ∈ lb,d<B30) (hle:(m≤n)) (hs:n≤2199023255552):Calls Tryz.prog 125 #[.slice A n ca,.slice B m cb] w fun e w'=>∃v,e=.returned v∧Wr w' v (num B30 la+num B30 lb)∧Ext w w'∧Fr w.heap.size v:=by
 have Hn:Hid (la.length=n):=hn;have Hm:Hid (lb.length=m):=hm;have Hla:=ZZ hla;have Hlb:=ZZ hlb;have hmk:=mk_digits (n+1) ((n:Int)+1) (by omega) (by omega);have hw0:IntKind.i64.wrap ((n:Int)+1)=(n:Int)+1:=IntWalk.i64_in _ (by omega);have hc1:decide ((n:Int)<(m:Int))=false:=by simp;omega
 have hc2:decide (n<m)=false:=by simp;omega
 have Hle:=ZZ hle;clear hn hm hla hlb
 go_enter Tryz.func125,Tryz.ntmps125
 go_wp2_with fail;clear hw0 hc1
 go_loopw [6,7] (fun c i wr=>∃(k cy:Nat) (r:List Nat),k≤n∧i=.int .i64 k∧c=.int .i64 cy∧cy≤1∧r.length=n+1∧(∀d ∈ r,d<B30)∧BkI wr w.heap.size r∧Below w.heap.size w wr∧num B30 (r.take k)+B30 ^ k*cy=num B30 (la.take k)+num B30 (lb.take k)) (fun _ i _=>n - (intOf i).toNat)
 case atStart=>exact⟨0,0,zs (n+1),Nat.zero_le _,rfl,rfl,by omega,zs_length _,zs_lt (by rw [B30_eq];omega) _,BkI.new _ _,ab _ _,by simp⟩
 case round=>
  clear hmk;obtain⟨k,cy,r,hk,rfl,rfl,hcy,hr,hrl,hbk,hbel,hnum⟩:=hrel;have Hr:Hid (r.length=n+1):=hr;have Hrl:=ZZ hrl;have Hbk:Hid (BkI wr w.heap.size r):=hbk;have Hnum:=ZZ hnum;clear hr hrl hnum hbk
  by_cases hlt:k<n
  ·have hci:=Hbk.out.cell k (by rw [Hr.out];omega)
   have hfi:=Hbk.out.frozen k;have hxl:=getD_lt Hla.out (by rw [B30_eq];omega) k;have Htx:=ZZ (num_take_le B30 la k);have Hty:=ZZ (num_take_le B30 lb k);rw [B30_eq] at hxl;obtain⟨ba,oa,rfl,hca'⟩:=hA.i (by rw [Hn.out];omega);have ea:=am hbel (hca' k (by rw [Hn.out];omega));clear hca' hA;generalize hgx:la.getD k 0=x at *;clear hgx;obtain⟨s1,hs1⟩:∃s1:Nat,s1=cy+x:=⟨_,rfl⟩;have hw1:IntKind.i64.wrap ((cy:Int)+(x:Int))=(s1:Int):=(IntWalk.i64_in _ (by omega)).trans (by omega)
   by_cases hkm:k<m
   ·obtain⟨bb,ob,rfl,hcb'⟩:=hB.i (by rw [Hm.out];omega)
    have eb:=am hbel (hcb' k (by rw [Hm.out];omega));have hyl:=getD_lt Hlb.out (by rw [B30_eq];omega) k;rw [B30_eq] at hyl;clear hcb' hB;generalize hgy:lb.getD k 0=y at *;clear hgy;obtain⟨s,hs2⟩:∃s:Nat,s=s1+y:=⟨_,rfl⟩;have hw2:IntKind.i64.wrap ((s1:Int)+(y:Int))=(s:Int):=(IntWalk.i64_in _ (by omega)).trans (by omega);obtain⟨d,c',hd,hdc,hd1,hc1'⟩:=split30 s;have hrem:(s:Int) % 1073741824=(d:Int):=by omega
    have hquo:(s:Int) / 1073741824=(c':Int):=by omega
    have hsb:s≤4294967296:=by omega
    have hcb:c'≤4294967296:=by omega
    have hwq:IntKind.i64.wrap (c':Int)=(c':Int):=IntWalk.i64_in _ (by rw [hc1'];omega);have hwd:IntKind.i64.wrap (d:Int)=(d:Int):=IntWalk.i64_in _ (by rw [hd1];omega);have hwk:IntKind.i64.wrap ((k:Int)+1)=((k+1:Nat):Int):=(IntWalk.i64_in _ (by omega)).trans (by omega);have Hc':=ZZ (show c'≤1 by rw [hc1'];omega);have Hst:=ZZ (add_step (s:=d) (c':=c') (B:=B30) Hnum.out (x:=x) (y:=y) (c:=cy) (by rw [hdc];omega));have Hd:=ZZ hd;have Hset:=ZZ (Hbk.out.set_ k d)
    have Hrel:=ZZ (show num B30 ((r.set k d).take (k+1))+B30 ^ (k+1)*c'=num B30 (la.take (k+1))+num B30 (lb.take (k+1)) by
     rw [num_set_take _ _ _ _ (by rw [Hr.out];omega),Htx.out,Hty.out,Nat.pow_succ];exact Hst.out)
    clear hd1 hc1' hdc hd Hst hs2 hs1;go_wp2_with fail
    go_roundw
    case rel=>exact⟨k+1,c',r.set k d,by omega,by first|rfl|go_num,rfl,Hc'.out,by rw [List.length_set,Hr.out],set_lt Hrl.out Hd.out k,Hset.out,hbel.setCell (Nat.le_refl _) _,Hrel.out⟩
    case measure=>simp [intOf];omega
   ·have ey:lb.getD k 0=0:=by rw [List.getD_eq_getElem?_getD,List.getElem?_eq_none (by rw [Hm.out];omega)];rfl
    rw [ey] at Hty;clear ey;obtain⟨s,hs2⟩:∃s:Nat,s=s1:=⟨_,rfl⟩;obtain⟨d,c',hd,hdc,hd1,hc1'⟩:=split30 s;have hrem:(s1:Int) % 1073741824=(d:Int):=by omega
    have hquo:(s1:Int) / 1073741824=(c':Int):=by omega
    have hsb:s1≤4294967296:=by omega
    have hcb:c'≤4294967296:=by omega
    have hwq:IntKind.i64.wrap (c':Int)=(c':Int):=IntWalk.i64_in _ (by rw [hc1'];omega);have hwd:IntKind.i64.wrap (d:Int)=(d:Int):=IntWalk.i64_in _ (by rw [hd1];omega);have hwk:IntKind.i64.wrap ((k:Int)+1)=((k+1:Nat):Int):=(IntWalk.i64_in _ (by omega)).trans (by omega);have Hc':=ZZ (show c'≤1 by rw [hc1'];omega);have Hst:=ZZ (add_step (s:=d) (c':=c') (B:=B30) Hnum.out (x:=x) (y:=0) (c:=cy) (by rw [hdc];omega));have Hd:=ZZ hd;have Hset:=ZZ (Hbk.out.set_ k d)
    have Hrel:=ZZ (show num B30 ((r.set k d).take (k+1))+B30 ^ (k+1)*c'=num B30 (la.take (k+1))+num B30 (lb.take (k+1)) by
     rw [num_set_take _ _ _ _ (by rw [Hr.out];omega),Htx.out,Hty.out,Nat.pow_succ];exact Hst.out)
    clear hd1 hc1' hdc hd Hst hs2 hs1;go_wp2_with fail
    go_roundw
    case rel=>exact⟨k+1,c',r.set k d,by omega,by first|rfl|go_num,rfl,Hc'.out,by rw [List.length_set,Hr.out],set_lt Hrl.out Hd.out k,Hset.out,hbel.setCell (Nat.le_refl _) _,Hrel.out⟩
    case measure=>simp [intOf];omega
  ·have hkn:k=n:=by omega
   subst hkn;have hci:=Hbk.out.cell k (by rw [Hr.out];omega);have hfi:=Hbk.out.frozen k;have Hset:=ZZ (Hbk.out.set_ k cy);have Hcy:Hid (cy<B30):=by show _<_;rw [B30_eq];omega
   have HC:=ZZ Hset.out.cl;go_wp2_with fail;refine(rcut_c _ (r.set k cy) _ _ HC.out (k+1) (by rw [List.length_set,Hr.out]) (by omega) (by omega)).mono ?_;rintro e w2 ⟨rfl,rfl⟩;go_wp2_with fail;go_ret;refine⟨_,rfl,?_,hbel.setCell (Nat.le_refl _) _,(fun b hb=>by cases hb;exact Nat.le_refl _)⟩;have h1:=Hnum.out;rw [num_take_all B30 la (by rw [Hn.out];omega),num_take_all B30 lb (by rw [Hm.out];have:=Hle.out;omega)] at h1;have h2:=rcut_w (set_lt Hrl.out Hcy.out k) HC.out (c:=k+1) (by rw [List.length_set,Hr.out];omega);rw [←h1,←num_set_take B30 r k cy (by rw [Hr.out];omega),num_take_all _ _ (by rw [List.length_set,Hr.out];omega)];exact h2
theorem plus_gt (A B:Option Addr) (la lb:List Nat) (ca cb:Nat) (w:World) (n m:Nat) (hn:la.length=n) (hm:lb.length=m) (hA:Cl w A (la.map i64n)) (hB:Cl w B (lb.map i64n)) (hla:∀d ∈ la,d<B30) (hlb:∀d ∈ lb,d<B30) (hle:(m<n)) (hs:n≤2199023255552):Calls Tryz.prog 125 #[.slice B m cb,.slice A n ca] w fun e w'=>∃v,e=.returned v∧Wr w' v (num B30 la+num B30 lb)∧Ext w w'∧Fr w.heap.size v:=by
 have Hn:Hid (la.length=n):=hn;have Hm:Hid (lb.length=m):=hm;have Hla:=ZZ hla;have Hlb:=ZZ hlb;have hmk:=mk_digits (n+1) ((n:Int)+1) (by omega) (by omega);have hw0:IntKind.i64.wrap ((n:Int)+1)=(n:Int)+1:=IntWalk.i64_in _ (by omega);have hc1:decide ((m:Int)<(n:Int))=true:=by simp;omega
 have hc2:decide (m<n)=true:=by simp;omega
 have Hle:=ZZ hle;clear hn hm hla hlb
 go_enter Tryz.func125,Tryz.ntmps125
 go_wp2_with fail;clear hw0 hc1
 go_loopw [6,7] (fun c i wr=>∃(k cy:Nat) (r:List Nat),k≤n∧i=.int .i64 k∧c=.int .i64 cy∧cy≤1∧r.length=n+1∧(∀d ∈ r,d<B30)∧BkI wr w.heap.size r∧Below w.heap.size w wr∧num B30 (r.take k)+B30 ^ k*cy=num B30 (la.take k)+num B30 (lb.take k)) (fun _ i _=>n - (intOf i).toNat)
 case atStart=>exact⟨0,0,zs (n+1),Nat.zero_le _,rfl,rfl,by omega,zs_length _,zs_lt (by rw [B30_eq];omega) _,BkI.new _ _,ab _ _,by simp⟩
 case round=>
  clear hmk;obtain⟨k,cy,r,hk,rfl,rfl,hcy,hr,hrl,hbk,hbel,hnum⟩:=hrel;have Hr:Hid (r.length=n+1):=hr;have Hrl:=ZZ hrl;have Hbk:Hid (BkI wr w.heap.size r):=hbk;have Hnum:=ZZ hnum;clear hr hrl hnum hbk
  by_cases hlt:k<n
  ·have hci:=Hbk.out.cell k (by rw [Hr.out];omega)
   have hfi:=Hbk.out.frozen k;have hxl:=getD_lt Hla.out (by rw [B30_eq];omega) k;have Htx:=ZZ (num_take_le B30 la k);have Hty:=ZZ (num_take_le B30 lb k);rw [B30_eq] at hxl;obtain⟨ba,oa,rfl,hca'⟩:=hA.i (by rw [Hn.out];omega);have ea:=am hbel (hca' k (by rw [Hn.out];omega));clear hca' hA;generalize hgx:la.getD k 0=x at *;clear hgx;obtain⟨s1,hs1⟩:∃s1:Nat,s1=cy+x:=⟨_,rfl⟩;have hw1:IntKind.i64.wrap ((cy:Int)+(x:Int))=(s1:Int):=(IntWalk.i64_in _ (by omega)).trans (by omega)
   by_cases hkm:k<m
   ·obtain⟨bb,ob,rfl,hcb'⟩:=hB.i (by rw [Hm.out];omega)
    have eb:=am hbel (hcb' k (by rw [Hm.out];omega));have hyl:=getD_lt Hlb.out (by rw [B30_eq];omega) k;rw [B30_eq] at hyl;clear hcb' hB;generalize hgy:lb.getD k 0=y at *;clear hgy;obtain⟨s,hs2⟩:∃s:Nat,s=s1+y:=⟨_,rfl⟩;have hw2:IntKind.i64.wrap ((s1:Int)+(y:Int))=(s:Int):=(IntWalk.i64_in _ (by omega)).trans (by omega);obtain⟨d,c',hd,hdc,hd1,hc1'⟩:=split30 s;have hrem:(s:Int) % 1073741824=(d:Int):=by omega
    have hquo:(s:Int) / 1073741824=(c':Int):=by omega
    have hsb:s≤4294967296:=by omega
    have hcb:c'≤4294967296:=by omega
    have hwq:IntKind.i64.wrap (c':Int)=(c':Int):=IntWalk.i64_in _ (by rw [hc1'];omega);have hwd:IntKind.i64.wrap (d:Int)=(d:Int):=IntWalk.i64_in _ (by rw [hd1];omega);have hwk:IntKind.i64.wrap ((k:Int)+1)=((k+1:Nat):Int):=(IntWalk.i64_in _ (by omega)).trans (by omega);have Hc':=ZZ (show c'≤1 by rw [hc1'];omega);have Hst:=ZZ (add_step (s:=d) (c':=c') (B:=B30) Hnum.out (x:=x) (y:=y) (c:=cy) (by rw [hdc];omega));have Hd:=ZZ hd;have Hset:=ZZ (Hbk.out.set_ k d)
    have Hrel:=ZZ (show num B30 ((r.set k d).take (k+1))+B30 ^ (k+1)*c'=num B30 (la.take (k+1))+num B30 (lb.take (k+1)) by
     rw [num_set_take _ _ _ _ (by rw [Hr.out];omega),Htx.out,Hty.out,Nat.pow_succ];exact Hst.out)
    clear hd1 hc1' hdc hd Hst hs2 hs1;go_wp2_with fail
    go_roundw
    case rel=>exact⟨k+1,c',r.set k d,by omega,by first|rfl|go_num,rfl,Hc'.out,by rw [List.length_set,Hr.out],set_lt Hrl.out Hd.out k,Hset.out,hbel.setCell (Nat.le_refl _) _,Hrel.out⟩
    case measure=>simp [intOf];omega
   ·have ey:lb.getD k 0=0:=by rw [List.getD_eq_getElem?_getD,List.getElem?_eq_none (by rw [Hm.out];omega)];rfl
    rw [ey] at Hty;clear ey;obtain⟨s,hs2⟩:∃s:Nat,s=s1:=⟨_,rfl⟩;obtain⟨d,c',hd,hdc,hd1,hc1'⟩:=split30 s;have hrem:(s1:Int) % 1073741824=(d:Int):=by omega
    have hquo:(s1:Int) / 1073741824=(c':Int):=by omega
    have hsb:s1≤4294967296:=by omega
    have hcb:c'≤4294967296:=by omega
    have hwq:IntKind.i64.wrap (c':Int)=(c':Int):=IntWalk.i64_in _ (by rw [hc1'];omega);have hwd:IntKind.i64.wrap (d:Int)=(d:Int):=IntWalk.i64_in _ (by rw [hd1];omega);have hwk:IntKind.i64.wrap ((k:Int)+1)=((k+1:Nat):Int):=(IntWalk.i64_in _ (by omega)).trans (by omega);have Hc':=ZZ (show c'≤1 by rw [hc1'];omega);have Hst:=ZZ (add_step (s:=d) (c':=c') (B:=B30) Hnum.out (x:=x) (y:=0) (c:=cy) (by rw [hdc];omega));have Hd:=ZZ hd;have Hset:=ZZ (Hbk.out.set_ k d)
    have Hrel:=ZZ (show num B30 ((r.set k d).take (k+1))+B30 ^ (k+1)*c'=num B30 (la.take (k+1))+num B30 (lb.take (k+1)) by
     rw [num_set_take _ _ _ _ (by rw [Hr.out];omega),Htx.out,Hty.out,Nat.pow_succ];exact Hst.out)
    clear hd1 hc1' hdc hd Hst hs2 hs1;go_wp2_with fail
    go_roundw
    case rel=>exact⟨k+1,c',r.set k d,by omega,by first|rfl|go_num,rfl,Hc'.out,by rw [List.length_set,Hr.out],set_lt Hrl.out Hd.out k,Hset.out,hbel.setCell (Nat.le_refl _) _,Hrel.out⟩
    case measure=>simp [intOf];omega
  ·have hkn:k=n:=by omega
   subst hkn;have hci:=Hbk.out.cell k (by rw [Hr.out];omega);have hfi:=Hbk.out.frozen k;have Hset:=ZZ (Hbk.out.set_ k cy);have Hcy:Hid (cy<B30):=by show _<_;rw [B30_eq];omega
   have HC:=ZZ Hset.out.cl;go_wp2_with fail;refine(rcut_c _ (r.set k cy) _ _ HC.out (k+1) (by rw [List.length_set,Hr.out]) (by omega) (by omega)).mono ?_;rintro e w2 ⟨rfl,rfl⟩;go_wp2_with fail;go_ret;refine⟨_,rfl,?_,hbel.setCell (Nat.le_refl _) _,(fun b hb=>by cases hb;exact Nat.le_refl _)⟩;have h1:=Hnum.out;rw [num_take_all B30 la (by rw [Hn.out];omega),num_take_all B30 lb (by rw [Hm.out];have:=Hle.out;omega)] at h1;have h2:=rcut_w (set_lt Hrl.out Hcy.out k) HC.out (c:=k+1) (by rw [List.length_set,Hr.out];omega);rw [←h1,←num_set_take B30 r k cy (by rw [Hr.out];omega),num_take_all _ _ (by rw [List.length_set,Hr.out];omega)];exact h2
theorem plus_f (va vb:Value) (m n:Nat) (w:World) (ha:Wr w va m) (hb:Wr w vb n) (sa:Sr m) (sb:Sr n):Calls Tryz.prog 125 #[va,vb] w fun e w'=>∃v,e=.returned v∧Wr w' v (m+n)∧Ext w w'∧Fr w.heap.size v:=by
 obtain⟨A,ca,rfl,hca,hA⟩:=ha;obtain⟨B,cb,rfl,hcb,hB⟩:=hb;unfold Sr at sa sb
 by_cases h:(dr n).length≤(dr m).length
 ·have h:=plus_le A B (dr m) (dr n) ca cb w _ _ rfl rfl hA hB (dr_lt m) (dr_lt n) h (by omega)
  rwa [num_dr,num_dr] at h
 ·have h:=plus_gt B A (dr n) (dr m) cb ca w _ _ rfl rfl hB hA (dr_lt n) (dr_lt m) (by omega) (by omega)
  rw [num_dr,num_dr,Nat.add_comm] at h;exact h
theorem plus_r (va vb:Value) (m n:Nat) (w:World) (ha:Wr w va m) (hb:Wr w vb n) (sa:Sr m) (sb:Sr n):Calls Tryz.prog 125 #[va,vb] w fun e w'=>∃v,e=.returned v∧Wr w' v (m+n)∧Ext w w':=
 (plus_f va vb m n w ha hb sa sb).mono fun e w' ⟨v,h1,h2,h3,_⟩=>⟨v,h1,h2,h3⟩
end Go.Proofs.YtoefieefcndlkaaGreatDoor
