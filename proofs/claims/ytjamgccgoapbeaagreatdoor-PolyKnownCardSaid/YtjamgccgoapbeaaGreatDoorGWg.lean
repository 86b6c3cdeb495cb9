/- The program's natural numbers: take and give (a multiple is subtracted, or added, in place). -/
import Derived.Test.YtjamgccgoapbeaaGreatDoorGWf
set_option linter.unusedVariables false
set_option maxRecDepth 100000
set_option maxHeartbeats 64000000
namespace Go.Proofs.YtjamgccgoapbeaaGreatDoor
open Go.RowKit
def PkU (w:World) (g:Nat) (l:List Nat):Prop:=∃cs:Array Value,w.heap[g]?=some (.cells cs 96 (0,0))∧l.length≤cs.size∧∀i,i<l.length→cs[i]?=some (.int .u64 ((l.getD i 0:Nat):Int))
theorem BkU.pk {w:World} {g:Nat} {l:List Nat} (h:BkU w g l):PkU w g l:=
 ⟨_,h,by simp,fun i hi=>by simp [hi,u64,List.getD_eq_getElem?_getD]⟩
theorem PkU.lt {w:World} {g:Nat} {l:List Nat} (h:PkU w g l):g<w.heap.size:=by
 obtain⟨cs,h,_⟩:=h
 rcases Nat.lt_or_ge g w.heap.size with hlt|hge
 ·exact hlt
 ·rw [Array.getElem?_eq_none hge] at h;cases h
theorem PkU.cell {w:World} {g:Nat} {l:List Nat} (h:PkU w g l) (i:Nat) (hi:i<l.length):w.cell? ⟨g,i,none⟩=some (.int .u64 ((l.getD i 0:Nat):Int)):=by
 obtain⟨cs,h1,h2,h3⟩:=h;rw [cell_of_row w g i _ _ _ h1];exact h3 i hi
theorem PkU.frozen {w:World} {g:Nat} {l:List Nat} (h:PkU w g l) (i:Nat):w.frozen? ⟨g,i,none⟩=false:=by
 obtain⟨cs,h1,h2,h3⟩:=h;exact frozen_of_row w g i _ _ h1
theorem PkU.set_ {w:World} {g:Nat} {l:List Nat} (h:PkU w g l) (i v:Nat) (hi:i<l.length):PkU (w.setCell ⟨g,i,none⟩ (.int .u64 (v:Int))) g (l.set i v):=by
 obtain⟨cs,h1,h2,h3⟩:=h;refine⟨cs.setIfInBounds i (.int .u64 (v:Int)),?_,by simpa using h2,fun j hj=>?_⟩
 ·simp only [World.setCell,Array.getElem?_modify,h1];simp
 ·simp only [List.length_set] at hj
  rw [Array.getElem?_setIfInBounds]
  by_cases e:i=j
  ·subst e
   rw [if_pos rfl,if_pos (by omega)]
   simp [List.getD_eq_getElem?_getD,hi]
  ·rw [if_neg e,h3 j hj,getD_set_ne e]
theorem PkU.same {w w':World} {g:Nat} {l:List Nat} (h:PkU w g l) (e:w'.heap[g]?=w.heap[g]?):PkU w' g l:=by
 obtain⟨cs,h1,h2,h3⟩:=h;exact⟨cs,e.trans h1,h2,h3⟩
theorem PkU.ext {w w':World} {g:Nat} {l:List Nat} (h:PkU w g l) (k:Ext w w'):PkU w' g l:=h.same (k.block g h.lt)
theorem PkU.take_ {w:World} {g:Nat} {l:List Nat} (h:PkU w g l) (k:Nat):PkU w g (l.take k):=by
 obtain⟨cs,h1,h2,h3⟩:=h;refine⟨cs,h1,by simp;omega,fun i hi=>?_⟩;rw [List.length_take] at hi;have h4:i<k:=by omega
 rw [h3 i (by omega)]
 simp [List.getD_eq_getElem?_getD,h4]
theorem PkU.cl {w:World} {g:Nat} {l:List Nat} (h:PkU w g l):Cl w (some ⟨g,0,none⟩) (l.map u64):=by
 obtain⟨cs,h1,h2,h3⟩:=h
 exact cl_block h1 (fun j hj=>by
  simp only [List.length_map] at hj
  rw [Nat.zero_add,h3 j hj,getD_map_u64 l j hj])
theorem grown_setCell {w w':World} {g:Nat} (h:w.grownBy w' (some g)) (i:Nat) (v:Value):w.grownBy (w'.setCell ⟨g,i,none⟩ v) (some g):=
 ⟨h.os,h.tape,h.output,by simpa [World.setCell] using h.size,fun k hk hne=>(Below.heap_setCell w' _ v k (by rintro rfl;exact hne rfl)).trans (h.block k hk hne)⟩
theorem mul_bounds2 {B x y cy hi lo s1 c1:Nat} (hx:x<B) (hy:y<B) (hcy:cy<B) (h0:hi*B+lo=x*y) (h1:s1+B*c1=lo+cy+0):hi+c1<B∧s1+B*(hi+c1)=x*y+cy:=by
 have e:s1+B*(hi+c1)=x*y+cy:=by grind
 have hxy:x*y≤(B - 1)*(B - 1):=Nat.mul_le_mul (by omega) (by omega);refine⟨?_,e⟩
 rcases Nat.lt_or_ge (hi+c1) B with h|h
 ·exact h
 ·have h3:B*B≤B*(hi+c1):=Nat.mul_le_mul_left _ h
  obtain⟨b,rfl⟩:∃b,B=b+1:=⟨B - 1,by omega⟩
  simp only [Nat.add_sub_cancel] at hxy
  have h4:(b+1)*(b+1)=b*b+2*b+1:=by grind
  omega
theorem take_step {R R' N P Q B t x old new cy bw cy' bw' s:Nat} {V:Nat} (h:R+P*(t*V)=N+P*Q*(cy+bw)) (h1:s+B*cy'=x*t+cy) (h2:new+s+bw=old+B*bw') (h3:R'+P*Q*old=R+P*Q*new):R'+P*(t*(V+Q*x))=N+P*(Q*B)*(cy'+bw'):=by
 have h4:P*Q*(new+s+bw)=P*Q*(old+B*bw'):=by rw [h2]
 have h5:P*Q*(s+B*cy')=P*Q*(x*t+cy):=by rw [h1]
 clear h1 h2;grind
theorem give_step {R R' N P Q B t x old new cy mr cy' mr' s:Nat} {V:Nat} (h:R+P*Q*(cy+mr)=N+P*(t*V)) (h1:s+B*cy'=x*t+cy) (h2:new+B*mr'=old+s+mr) (h3:R'+P*Q*old=R+P*Q*new):R'+P*(Q*B)*(cy'+mr')=N+P*(t*(V+Q*x)):=by
 have h4:P*Q*(new+B*mr')=P*Q*(old+s+mr):=by rw [h2]
 have h5:P*Q*(s+B*cy')=P*Q*(x*t+cy):=by rw [h1]
 clear h1 h2;grind
theorem take_last {R R' N P Q B V t old new cy bw bw':Nat} (h:R+P*(t*V)=N+P*Q*(cy+bw)) (h2:new+cy+bw=old+B*bw') (h3:R'+P*Q*old=R+P*Q*new):R'+P*(t*V)=N+P*(Q*B)*bw':=by
 have h4:P*Q*(new+cy+bw)=P*Q*(old+B*bw'):=by rw [h2]
 clear h2;grind
theorem give_last {R R' N P Q B V t old new cy bw bw':Nat} (h:R+P*Q*(cy+bw)=N+P*(t*V)) (h2:new+B*bw'=old+cy+bw) (h3:R'+P*Q*old=R+P*Q*new):R'+P*(Q*B)*bw'=N+P*(t*V):=by
 have h4:P*Q*(new+B*bw')=P*Q*(old+cy+bw):=by rw [h2]
 clear h2;grind
theorem take_c (g o nu cu gv cv n t:Nat) (us vs:List Nat) (w:World) (hU:PkU w g us) (hus:∀d ∈ us,d<B64) (ho:o+n+1≤us.length) (hnu:n+1≤nu) (hou:us.length≤35184372088832) (hV:Cl w (some ⟨gv,0,none⟩) (vs.map u64)) (hvs:∀d ∈ vs,d<B64) (hn:vs.length=n) (hne:gv≠g) (ht:t<B64):Calls Tryz.prog 150 #[.slice (some ⟨g,o,none⟩) nu cu,.slice (some ⟨gv,0,none⟩) n cv,.int .u64 t] w fun e w'=>∃(us':List Nat) (b:Bool),e=.returned (.bool b)∧us'.length=us.length∧(∀d ∈ us',d<B64)∧PkU w' g us'∧w.grownBy w' (some g)∧(∀i,i<o∨o+n<i→us'.getD i 0=us.getD i 0)∧num B64 us'+B64 ^ o*(t*num B64 vs)=num B64 us+B64 ^ (o+n+1)*(if b then 1 else 0):=by
 have HV:Hid (∀j,j<n→w.cell? ⟨gv,j,none⟩=some (.int .u64 ((vs.getD j 0:Nat):Int))):=fun j hj=>by
  obtain⟨b,o',e,hc⟩:=hV.u (by rw [hn];omega)
  simp only [Option.some.injEq,Addr.mk.injEq,and_true] at e
  obtain⟨rfl,rfl⟩:=e
  have:=hc j (by rw [hn];exact hj)
  simpa using this
 have Hn:=ZZ hn;have Hus:=ZZ hus;have Hvs:=ZZ hvs;have Ht:=ZZ ht;have HU:=ZZ hU;have hgl:=hU.lt;clear hn hus hvs ht hU hV
 go_enter Tryz.func150,Tryz.ntmps150
 go_wp2
 go_loopw [7,8,16] (fun c b i wr=>∃(k cy bw:Nat) (r:List Nat),k≤n∧i=.int .i64 k∧c=.int .u64 cy∧b=.int .u64 bw∧cy<B64∧bw≤1∧r.length=us.length∧(∀d ∈ r,d<B64)∧PkU wr g r∧w.grownBy wr (some g)∧(∀i,i<o∨o+n<i→r.getD i 0=us.getD i 0)∧num B64 r+B64 ^ o*(t*num B64 (vs.take k))=num B64 us+B64 ^ o*B64 ^ k*(cy+bw)) (fun _ _ i _=>n - (intOf i).toNat)
 case atStart=>exact⟨0,0,0,us,Nat.zero_le _,rfl,rfl,rfl,by rw [B64_eq];omega,by omega,rfl,Hus.out,HU.out,World.grownBy.refl _ _,fun _ _=>rfl,by simp⟩
 case round=>
  obtain⟨k,cy,bw,r,hk,rfl,rfl,rfl,hcy,hbw,hr,hrl,hpk,hgr,hout,hnum⟩:=hrel;have Hr:=ZZ hr;have Hrl:=ZZ hrl;have Hpk:=ZZ hpk;have Hnum:=ZZ hnum;have Hout:=ZZ hout;have Hcy:=ZZ hcy;clear hr hrl hpk hnum hout hcy
  by_cases hlt:k<n
  ·have ea:wr.cell? ⟨gv,k,none⟩=some (.int .u64 ((vs.getD k 0:Nat):Int)):=hgr.cell (HV.out k hlt) (by simpa using hne)
   have hxl:=getD_lt Hvs.out (by rw [B64_eq];omega) k;have Htk:Hid (num B64 (vs.take (k+1))=num B64 (vs.take k)+B64 ^ k*vs.getD k 0):=num_take_le _ _ _;generalize vs.getD k 0=x at *;have hci:=Hpk.out.cell (o+k) (by rw [Hr.out];omega);have hfi:=Hpk.out.frozen (o+k);have hol:=getD_lt Hrl.out (by rw [B64_eq];omega) (o+k);have Hns:=ZZ (fun s=>num_set B64 r (o+k) s (by rw [Hr.out];omega));generalize r.getD (o+k) 0=old at *;have Hxl:=ZZ hxl;have Hol:=ZZ hol;clear hxl hol;go_wp2_with fail;refine(mul64_c x t Hxl.out Ht.out _).mono ?_;rintro e w1 ⟨⟨hi,lo,rfl,hhl,hhi,hlo⟩,rfl⟩;obtain⟨s1,c1,hs1,hc1,hsc1,hrun1⟩:=run_add lo cy 0 (by omega) hlo Hcy.out;obtain⟨s2,c2,hs2,hc2,hsc2,hrun2⟩:=run_sub old s1 bw hbw Hol.out hs1;have hrun1':∀w,(callFunc 122 #[.int .u64 lo,.int .u64 cy,.int .u64 0]).run Tryz.prog w=.ok (.value (.tuple #[.int .u64 s1,.int .u64 c1])) w:=hrun1;obtain⟨b1,b2⟩:=mul_bounds2 Hxl.out Ht.out Hcy.out hhl hsc1;obtain⟨h2,hh2⟩:∃z,z=hi+c1:=⟨_,rfl⟩;rw [←hh2] at b1 b2
   have hw1:IntKind.u64.wrap ((hi:Int)+(c1:Int))=((h2:Nat):Int):=by
    rw [IntWalk.u64_in _ (by rw [B64_eq] at b1;omega)];omega
   have B1:=ZZ b1;have B2:=ZZ b2;have Hs2:=ZZ hs2;have Hsc2:=ZZ hsc2;have Hset:=ZZ (Hpk.out.set_ (o+k) s2 (by rw [Hr.out];omega));clear hrun1 hsc1 hsc2 b1 b2 hh2 hs1 hs2 hhl hhi hlo hc1
   go_wp2
   go_roundw
   case rel=>
    refine⟨k+1,h2,c2,r.set (o+k) s2,by omega,by go_num,rfl,rfl,B1.out,hc2,by rw [List.length_set,Hr.out],set_lt Hrl.out Hs2.out _,Hset.out,grown_setCell hgr _ _,fun i hi=>by rw [getD_set_ne (by omega)];exact Hout.out i hi,?_⟩;have h5:=Hns.out s2;rw [Nat.pow_add] at h5;rw [Htk.out,Nat.pow_succ];exact take_step Hnum.out B2.out Hsc2.out h5
   case measure=>simp [intOf];omega
  ·have hkn:k=n:=by omega
   subst hkn;have hci:=Hpk.out.cell (o+k) (by rw [Hr.out];omega);have hfi:=Hpk.out.frozen (o+k);have hol:=getD_lt Hrl.out (by rw [B64_eq];omega) (o+k);have Hns:=ZZ (fun s=>num_set B64 r (o+k) s (by rw [Hr.out];omega));generalize r.getD (o+k) 0=old at *;obtain⟨s2,c2,hs2,hc2,hsc2,hrun2⟩:=run_sub old cy bw hbw hol Hcy.out;have Hs2:=ZZ hs2;have Hsc2:=ZZ hsc2;have Hset:=ZZ (Hpk.out.set_ (o+k) s2 (by rw [Hr.out];omega))
   have hfin:num B64 (r.set (o+k) s2)+B64 ^ o*(t*num B64 vs)=num B64 us+B64 ^ (o+k+1)*c2:=by
    have h5:=num_set B64 r (o+k) s2 (by rw [Hr.out];omega);have h5:=Hns.out s2;rw [Nat.pow_add] at h5;have h6:=Hnum.out;rw [num_take_all B64 vs (by rw [Hn.out];omega)] at h6;rw [show o+k+1=o+(k+1) by omega,Nat.pow_add,Nat.pow_succ];exact take_last h6 hsc2 h5
   have Hfin:=ZZ hfin;have hbit:c2=0∨c2=1:=by omega
   clear hsc2 hs2 hol hfin
   rcases hbit with rfl|rfl
   ·go_wp2
    go_ret;refine⟨r.set (o+k) s2,false,by first|rfl|simp,by rw [List.length_set,Hr.out],set_lt Hrl.out Hs2.out _,Hset.out,grown_setCell hgr _ _,fun i hi=>by rw [getD_set_ne (by omega)];exact Hout.out i hi,?_⟩
    rw [if_neg (by decide)];exact Hfin.out
   ·go_wp2
    go_ret;refine⟨r.set (o+k) s2,true,by first|rfl|simp,by rw [List.length_set,Hr.out],set_lt Hrl.out Hs2.out _,Hset.out,grown_setCell hgr _ _,fun i hi=>by rw [getD_set_ne (by omega)];exact Hout.out i hi,?_⟩
    rw [if_pos rfl];exact Hfin.out
theorem give_c (g o nu cu gv cv n t:Nat) (us vs:List Nat) (w:World) (hU:PkU w g us) (hus:∀d ∈ us,d<B64) (ho:o+n+1≤us.length) (hnu:n+1≤nu) (hou:us.length≤35184372088832) (hV:Cl w (some ⟨gv,0,none⟩) (vs.map u64)) (hvs:∀d ∈ vs,d<B64) (hn:vs.length=n) (hne:gv≠g) (ht:t<B64):Calls Tryz.prog 151 #[.slice (some ⟨g,o,none⟩) nu cu,.slice (some ⟨gv,0,none⟩) n cv,.int .u64 t] w fun e w'=>∃(us':List Nat) (b:Bool),e=.returned (.tuple #[])∧us'.length=us.length∧(∀d ∈ us',d<B64)∧PkU w' g us'∧w.grownBy w' (some g)∧(∀i,i<o∨o+n<i→us'.getD i 0=us.getD i 0)∧num B64 us'+B64 ^ (o+n+1)*(if b then 1 else 0)=num B64 us+B64 ^ o*(t*num B64 vs):=by
 have HV:Hid (∀j,j<n→w.cell? ⟨gv,j,none⟩=some (.int .u64 ((vs.getD j 0:Nat):Int))):=fun j hj=>by
  obtain⟨b,o',e,hc⟩:=hV.u (by rw [hn];omega)
  simp only [Option.some.injEq,Addr.mk.injEq,and_true] at e
  obtain⟨rfl,rfl⟩:=e
  have:=hc j (by rw [hn];exact hj)
  simpa using this
 have Hn:=ZZ hn;have Hus:=ZZ hus;have Hvs:=ZZ hvs;have Ht:=ZZ ht;have HU:=ZZ hU;have hgl:=hU.lt;clear hn hus hvs ht hU hV
 go_enter Tryz.func151,Tryz.ntmps151
 go_wp2
 go_loopw [6,7,15] (fun c b i wr=>∃(k cy bw:Nat) (r:List Nat),k≤n∧i=.int .i64 k∧c=.int .u64 cy∧b=.int .u64 bw∧cy<B64∧bw≤1∧r.length=us.length∧(∀d ∈ r,d<B64)∧PkU wr g r∧w.grownBy wr (some g)∧(∀i,i<o∨o+n<i→r.getD i 0=us.getD i 0)∧num B64 r+B64 ^ o*B64 ^ k*(cy+bw)=num B64 us+B64 ^ o*(t*num B64 (vs.take k))) (fun _ _ i _=>n - (intOf i).toNat)
 case atStart=>exact⟨0,0,0,us,Nat.zero_le _,rfl,rfl,rfl,by rw [B64_eq];omega,by omega,rfl,Hus.out,HU.out,World.grownBy.refl _ _,fun _ _=>rfl,by simp⟩
 case round=>
  obtain⟨k,cy,bw,r,hk,rfl,rfl,rfl,hcy,hbw,hr,hrl,hpk,hgr,hout,hnum⟩:=hrel;have Hr:=ZZ hr;have Hrl:=ZZ hrl;have Hpk:=ZZ hpk;have Hnum:=ZZ hnum;have Hout:=ZZ hout;have Hcy:=ZZ hcy;clear hr hrl hpk hnum hout hcy
  by_cases hlt:k<n
  ·have ea:wr.cell? ⟨gv,k,none⟩=some (.int .u64 ((vs.getD k 0:Nat):Int)):=hgr.cell (HV.out k hlt) (by simpa using hne)
   have hxl:=getD_lt Hvs.out (by rw [B64_eq];omega) k;have Htk:Hid (num B64 (vs.take (k+1))=num B64 (vs.take k)+B64 ^ k*vs.getD k 0):=num_take_le _ _ _;generalize vs.getD k 0=x at *;have hci:=Hpk.out.cell (o+k) (by rw [Hr.out];omega);have hfi:=Hpk.out.frozen (o+k);have hol:=getD_lt Hrl.out (by rw [B64_eq];omega) (o+k);have Hns:=ZZ (fun s=>num_set B64 r (o+k) s (by rw [Hr.out];omega));generalize r.getD (o+k) 0=old at *;have Hxl:=ZZ hxl;have Hol:=ZZ hol;clear hxl hol;go_wp2_with fail;refine(mul64_c x t Hxl.out Ht.out _).mono ?_;rintro e w1 ⟨⟨hi,lo,rfl,hhl,hhi,hlo⟩,rfl⟩;obtain⟨s1,c1,hs1,hc1,hsc1,hrun1⟩:=run_add lo cy 0 (by omega) hlo Hcy.out;obtain⟨s2,c2,hs2,hc2,hsc2,hrun2⟩:=run_add old s1 bw hbw Hol.out hs1;have hrun1':∀w,(callFunc 122 #[.int .u64 lo,.int .u64 cy,.int .u64 0]).run Tryz.prog w=.ok (.value (.tuple #[.int .u64 s1,.int .u64 c1])) w:=hrun1;obtain⟨b1,b2⟩:=mul_bounds2 Hxl.out Ht.out Hcy.out hhl hsc1;obtain⟨h2,hh2⟩:∃z,z=hi+c1:=⟨_,rfl⟩;rw [←hh2] at b1 b2
   have hw1:IntKind.u64.wrap ((hi:Int)+(c1:Int))=((h2:Nat):Int):=by
    rw [IntWalk.u64_in _ (by rw [B64_eq] at b1;omega)];omega
   have B1:=ZZ b1;have B2:=ZZ b2;have Hs2:=ZZ hs2;have Hsc2:=ZZ hsc2;have Hset:=ZZ (Hpk.out.set_ (o+k) s2 (by rw [Hr.out];omega));clear hrun1 hsc1 hsc2 b1 b2 hh2 hs1 hs2 hhl hhi hlo hc1
   go_wp2
   go_roundw
   case rel=>
    refine⟨k+1,h2,c2,r.set (o+k) s2,by omega,by go_num,rfl,rfl,B1.out,hc2,by rw [List.length_set,Hr.out],set_lt Hrl.out Hs2.out _,Hset.out,grown_setCell hgr _ _,fun i hi=>by rw [getD_set_ne (by omega)];exact Hout.out i hi,?_⟩;have h5:=Hns.out s2;rw [Nat.pow_add] at h5;rw [Htk.out,Nat.pow_succ];exact give_step Hnum.out B2.out Hsc2.out h5
   case measure=>simp [intOf];omega
  ·have hkn:k=n:=by omega
   subst hkn;have hci:=Hpk.out.cell (o+k) (by rw [Hr.out];omega);have hfi:=Hpk.out.frozen (o+k);have hol:=getD_lt Hrl.out (by rw [B64_eq];omega) (o+k);have Hns:=ZZ (fun s=>num_set B64 r (o+k) s (by rw [Hr.out];omega));generalize r.getD (o+k) 0=old at *;obtain⟨s2,c2,hs2,hc2,hsc2,hrun2⟩:=run_add old cy bw hbw hol Hcy.out;have Hs2:=ZZ hs2;have Hsc2:=ZZ hsc2;have Hset:=ZZ (Hpk.out.set_ (o+k) s2 (by rw [Hr.out];omega))
   have hfin:num B64 (r.set (o+k) s2)+B64 ^ (o+k+1)*c2=num B64 us+B64 ^ o*(t*num B64 vs):=by
    have h5:=num_set B64 r (o+k) s2 (by rw [Hr.out];omega);have h5:=Hns.out s2;rw [Nat.pow_add] at h5;have h6:=Hnum.out;rw [num_take_all B64 vs (by rw [Hn.out];omega)] at h6;rw [show o+k+1=o+(k+1) by omega,Nat.pow_add,Nat.pow_succ];exact give_last h6 hsc2 h5
   have Hfin:=ZZ hfin;have hbit:c2=0∨c2=1:=by omega
   clear hsc2 hs2 hol hfin
   rcases hbit with rfl|rfl
   ·go_wp2
    go_end0
    refine⟨r.set (o+k) s2,false,by first|rfl|simp,by rw [List.length_set,Hr.out],set_lt Hrl.out Hs2.out _,Hset.out,grown_setCell hgr _ _,fun i hi=>by rw [getD_set_ne (by omega)];exact Hout.out i hi,?_⟩;rw [if_neg (by decide)];exact Hfin.out
   ·go_wp2
    go_end0
    refine⟨r.set (o+k) s2,true,by first|rfl|simp,by rw [List.length_set,Hr.out],set_lt Hrl.out Hs2.out _,Hset.out,grown_setCell hgr _ _,fun i hi=>by rw [getD_set_ne (by omega)];exact Hout.out i hi,?_⟩;rw [if_pos rfl];exact Hfin.out
end Go.Proofs.YtjamgccgoapbeaaGreatDoor
