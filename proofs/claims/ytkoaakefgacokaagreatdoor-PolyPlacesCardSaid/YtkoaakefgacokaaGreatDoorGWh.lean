/- Siegel's lemma: fewer equations than unknowns have a small solution in integers. -/
import Derived.Test.YtkoaakefgacokaaGreatDoorGNat
import Derived.Test.YtkoaakefgacokaaGreatDoorGWf
import Derived.Deep.RegionLawGrows
set_option linter.unusedVariables false
set_option linter.unusedSimpArgs false
set_option maxRecDepth 100000
set_option maxHeartbeats 64000000
namespace Go.Proofs.YtkoaakefgacokaaGreatDoor
theorem filt_len {α:Type} (f:α→Nat):∀(m:Nat) (S:List α),(∀a ∈ S,f a<m)→∃v,S.length≤m*(S.filter fun a=>f a == v).length
 | 0,S,h=>⟨0,by
  cases S with
  | nil=>simp
  | cons a S=>exact absurd (h a (List.mem_cons_self ..)) (Nat.not_lt_zero _)⟩
 | m+1,S,h=>by
  obtain⟨v,hv⟩:=filt_len f m (S.filter fun a=>decide (f a<m)) (fun a ha=>by simpa using (List.mem_filter.1 ha).2)
  have h1:S.length=(S.filter fun a=>decide (f a<m)).length+(S.filter fun a=>f a == m).length:=by
   clear hv
   induction S with
   | nil=>rfl
   | cons a S ih=>
    have h2:=ih fun b hb=>h b (List.mem_cons_of_mem _ hb);have h3:=h a (List.mem_cons_self ..)
    by_cases h4:f a<m
    ·have h5:(f a == m)=false:=by simp;omega
     simp [List.filter_cons,h4,h5]
     omega
    ·have h5:f a=m:=by omega
     simp [List.filter_cons,h5]
     omega
  have h2:((S.filter fun a=>decide (f a<m)).filter fun a=>f a == v).length≤(S.filter fun a=>f a == v).length:=by
   rw [List.filter_filter]
   have:(fun a=>(f a == v) && decide (f a<m))=fun a=>decide (f a<m) && (f a == v):=by funext a;exact Bool.and_comm _ _
   rw [this,←List.filter_filter];exact List.length_filter_le _ _
  have h3:m*((S.filter fun a=>decide (f a<m)).filter fun a=>f a == v).length≤m*(S.filter fun a=>f a == v).length:=Nat.mul_le_mul_left _ h2
  rcases Nat.le_total (S.filter fun a=>f a == v).length (S.filter fun a=>f a == m).length with h4|h4
  ·refine⟨m,?_⟩
   have h5:m*(S.filter fun a=>f a == v).length≤m*(S.filter fun a=>f a == m).length:=Nat.mul_le_mul_left _ h4;rw [Nat.add_mul];omega
  ·refine⟨v,?_⟩
   rw [Nat.add_mul];omega
theorem two_same {α:Type} (g:Nat→α→Nat) (B:Nat):∀(n:Nat) (S:List α),S.Nodup→(∀k,k<n→∀a ∈ S,g k a<B)→B ^ n<S.length→∃a ∈ S,∃b ∈ S,a≠b∧∀k,k<n→g k a=g k b
 | 0,S,hn,_,hl=>by
  match S,hn,hl with
  | a :: b :: S,hn,_=>
   refine⟨a,by simp,b,by simp,?_,fun k hk=>by omega⟩;rw [List.nodup_cons] at hn;exact fun e=>hn.1 (by rw [e];simp)
  | [a],_,hl=>simp at hl
  | [],_,hl=>simp at hl
 | n+1,S,hn,hb,hl=>by
  obtain⟨v,hv⟩:=filt_len (g n) B S (hb n (by omega))
  have h1:B ^ n<(S.filter fun a=>g n a == v).length:=by
   rw [Nat.pow_succ,Nat.mul_comm] at hl;exact Nat.lt_of_mul_lt_mul_left (a:=B) (Nat.lt_of_lt_of_le hl hv)
  obtain⟨a,ha,b,hb2,hab,he⟩:=two_same g B n _ (hn.filter _) (fun k hk a ha=>hb k (by omega) a (List.mem_filter.1 ha).1) h1;have ha2:=List.mem_filter.1 ha;have hb3:=List.mem_filter.1 hb2;refine⟨a,ha2.1,b,hb3.1,hab,fun k hk=>?_⟩
  rcases Nat.lt_or_ge k n with h|h
  ·exact he k h
  ·obtain rfl:k=n:=by omega
   have e1:g k a=v:=by simpa using ha2.2
   have e2:g k b=v:=by simpa using hb3.2
   rw [e1,e2]
def digN (b c j:Nat):Nat:=c / b ^ j % b
theorem dig_inj (b:Nat) (hb:0<b):∀(n c d:Nat),c<b ^ n→d<b ^ n→(∀j,j<n→digN b c j=digN b d j)→c=d
 | 0,c,d,hc,hd,_=>by rw [Nat.pow_zero] at hc hd;omega
 | n+1,c,d,hc,hd,h=>by
  have h0:=h 0 (by omega);unfold digN at h0;rw [Nat.pow_zero,Nat.div_one,Nat.div_one] at h0
  have h1:=dig_inj b hb n (c / b) (d / b) (by rw [Nat.div_lt_iff_lt_mul hb];rwa [Nat.pow_succ] at hc) (by rw [Nat.div_lt_iff_lt_mul hb];rwa [Nat.pow_succ] at hd) (fun j hj=>by
   have h2:=h (j+1) (by omega);unfold digN at h2 ⊢
   rwa [Nat.pow_succ,Nat.mul_comm,←Nat.div_div_eq_div_mul,←Nat.div_div_eq_div_mul] at h2)
  rw [←Nat.div_add_mod c b,←Nat.div_add_mod d b,h0,h1]
theorem siegel (L:(Nat→Int)→Nat→Int) (n m K W:Nat) (hadd:∀x y k,L (fun j=>x j - y j) k=L x k - L y k) (hb:∀x,(∀j,0≤x j∧x j≤(K:Int))→∀k,k<m→(L x k).natAbs≤W) (hc:(2*W+1) ^ m<(K+1) ^ n):∃z:Nat→Int,(∃j,j<n∧z j≠0)∧(∀j,n≤j→z j=0)∧(∀j,(z j).natAbs≤K)∧∀k,k<m→L z k=0:=by
 let X:Nat→Nat→Int:=fun c j=>if j<n then (digN (K+1) c j:Int) else 0
 have hX:∀c j,0≤X c j∧X c j≤(K:Int):=fun c j=>by
  show 0≤(if j<n then (digN (K+1) c j:Int) else 0)∧(if j<n then (digN (K+1) c j:Int) else 0)≤(K:Int)
  by_cases h:j<n
  ·rw [if_pos h]
   have:digN (K+1) c j<K+1:=Nat.mod_lt _ (by omega)
   omega
  ·rw [if_neg h];omega
 obtain⟨c,hcm,d,hdm,hne,he⟩:=two_same (fun k c=>(L (X c) k+W).toNat) (2*W+1) m (List.range ((K+1) ^ n)) List.nodup_range
  (fun k hk a _=>by
   have:=hb (X a) (hX a) k hk
   show (L (X a) k+W).toNat<2*W+1
   omega) (by rw [List.length_range];exact hc)
 rw [List.mem_range] at hcm hdm;refine⟨fun j=>X c j - X d j,?_,fun j hj=>?_,fun j=>?_,fun k hk=>?_⟩
 ·refine Classical.byContradiction fun hn=>hne (dig_inj (K+1) (by omega) n c d hcm hdm fun j hj=>?_)
  have h1:X c j - X d j=0:=Classical.byContradiction fun h=>hn ⟨j,hj,h⟩;have h2:(if j<n then (digN (K+1) c j:Int) else 0) - (if j<n then (digN (K+1) d j:Int) else 0)=0:=h1;rw [if_pos hj,if_pos hj] at h2;omega
 ·show (if j<n then (digN (K+1) c j:Int) else 0) - (if j<n then (digN (K+1) d j:Int) else 0)=0
  rw [if_neg (by omega),if_neg (by omega)];rfl
 ·have h1:=hX c j
  have h2:=hX d j
  show (X c j - X d j).natAbs≤K
  omega
 ·have h1:=he k hk
  have h2:=hb (X c) (hX c) k hk;have h3:=hb (X d) (hX d) k hk;rw [hadd];have h4:(L (X c) k+W).toNat=(L (X d) k+W).toNat:=h1;omega
theorem siegel_count {n m a v K W A:Nat} (hm:m<n) (hn:n≤2 ^ v) (hA:A≤2 ^ a) (hK:K=2 ^ ((a+v+2)*(n - 1))) (hW:W=n*K*A):(2*W+1) ^ m<(K+1) ^ n:=by
 have h1:2*W+1≤2 ^ (a+v+2)*(K+1):=by
  have h2:n*A≤2 ^ v*2 ^ a:=Nat.mul_le_mul hn hA;have h3:n*A*K≤2 ^ v*2 ^ a*K:=Nat.mul_le_mul_right _ h2;have h4:W=n*A*K:=by rw [hW];ac_rfl
  have h5:2 ^ (a+v+2)=4*(2 ^ v*2 ^ a):=by rw [Nat.pow_add,Nat.pow_add];generalize 2 ^ a=x;generalize 2 ^ v=y;rw [Nat.mul_comm x y];omega
  have h6:0<2 ^ v*2 ^ a:=Nat.mul_pos (Nat.pow_pos (by decide)) (Nat.pow_pos (by decide));rw [h5,h4];generalize 2 ^ v*2 ^ a=x at *;rw [show 4*x*(K+1)=4*(x*K)+4*x by rw [Nat.mul_add,Nat.mul_one,Nat.mul_assoc]];generalize x*K=y at *;generalize n*A*K=u at *;omega
 have h2:(2*W+1) ^ m≤(2 ^ (a+v+2)*(K+1)) ^ (n - 1):=Nat.le_trans (Nat.pow_le_pow_left h1 m) (Nat.pow_le_pow_right (Nat.mul_pos (Nat.pow_pos (by decide)) (by omega)) (by omega));rw [Nat.mul_pow,←Nat.pow_mul,←hK] at h2;have h3:(K+1) ^ n=(K+1)*(K+1) ^ (n - 1):=by rw [←Nat.pow_succ',show (n - 1).succ=n by omega]
 rw [h3];refine Nat.lt_of_le_of_lt h2 (Nat.mul_lt_mul_of_pos_right (by omega) (Nat.pow_pos (by omega)))
open Go.RowKit
def PkU (w:World) (g:Nat) (l:List Nat):Prop:=∃cs:Array Value,w.heap[g]?=some (.cells cs 85 (0,0))∧l.length≤cs.size∧∀i,i<l.length→cs[i]?=some (.int .u64 ((l.getD i 0:Nat):Int))
theorem BkU.pk {w:World} {g:Nat} {l:List Nat} (h:BkU w g l):PkU w g l:=
 ⟨_,h,by simp,fun i hi=>by simp [hi,u64,List.getD_eq_getElem?_getD]⟩
theorem PkU.lt {w:World} {g:Nat} {l:List Nat} (h:PkU w g l):g<w.heap.size:=by
 obtain⟨cs,h,_⟩:=h
 rcases Nat.lt_or_ge g w.heap.size with hlt|hge
 ·exact hlt
 ·rw [Array.getElem?_eq_none hge] at h;cases h
theorem PkU.cell {w:World} {g:Nat} {l:List Nat} (h:PkU w g l) (i:Nat) (hi:i<l.length):w.cell? ⟨g,i,none⟩=some (.int .u64 ((l.getD i 0:Nat):Int)):=by
 obtain⟨cs,h1,h2,h3⟩:=h;rw [cell_of_row w g i _ _ _ h1];exact h3 i hi
theorem PkU.frozen {w:World} {g:Nat} {l:List Nat} (h:PkU w g l) (i:Nat):w.frozen? ⟨g,i,none⟩=false:=by
 obtain⟨cs,h1,h2,h3⟩:=h;exact frozen_of_row w g i _ _ h1
theorem PkU.set_ {w:World} {g:Nat} {l:List Nat} (h:PkU w g l) (i v:Nat) (hi:i<l.length):PkU (w.setCell ⟨g,i,none⟩ (.int .u64 (v:Int))) g (l.set i v):=by
 obtain⟨cs,h1,h2,h3⟩:=h;refine⟨cs.setIfInBounds i (.int .u64 (v:Int)),?_,by simpa using h2,fun j hj=>?_⟩
 ·simp only [World.setCell,Array.getElem?_modify,h1];simp
 ·simp only [List.length_set] at hj
  rw [Array.getElem?_setIfInBounds]
  by_cases e:i=j
  ·subst e
   rw [if_pos rfl,if_pos (by omega)]
   simp [List.getD_eq_getElem?_getD,hi]
  ·rw [if_neg e,h3 j hj,getD_set_ne e]
theorem PkU.same {w w':World} {g:Nat} {l:List Nat} (h:PkU w g l) (e:w'.heap[g]?=w.heap[g]?):PkU w' g l:=by
 obtain⟨cs,h1,h2,h3⟩:=h;exact⟨cs,e.trans h1,h2,h3⟩
theorem PkU.ext {w w':World} {g:Nat} {l:List Nat} (h:PkU w g l) (k:Ext w w'):PkU w' g l:=h.same (k.block g h.lt)
theorem PkU.take_ {w:World} {g:Nat} {l:List Nat} (h:PkU w g l) (k:Nat):PkU w g (l.take k):=by
 obtain⟨cs,h1,h2,h3⟩:=h;refine⟨cs,h1,by simp;omega,fun i hi=>?_⟩;rw [List.length_take] at hi;have h4:i<k:=by omega
 rw [h3 i (by omega)]
 simp [List.getD_eq_getElem?_getD,h4]
theorem PkU.cl {w:World} {g:Nat} {l:List Nat} (h:PkU w g l):Cl w (some ⟨g,0,none⟩) (l.map u64):=by
 obtain⟨cs,h1,h2,h3⟩:=h
 exact cl_block h1 (fun j hj=>by
  simp only [List.length_map] at hj
  rw [Nat.zero_add,h3 j hj,getD_map_u64 l j hj])
theorem grown_setCell {w w':World} {g:Nat} (h:w.grownBy w' (some g)) (i:Nat) (v:Value):w.grownBy (w'.setCell ⟨g,i,none⟩ v) (some g):=
 ⟨h.os,h.tape,h.output,by simpa [World.setCell] using h.size,fun k hk hne=>(Below.heap_setCell w' _ v k (by rintro rfl;exact hne rfl)).trans (h.block k hk hne)⟩
theorem mul_bounds2 {B x y cy hi lo s1 c1:Nat} (hx:x<B) (hy:y<B) (hcy:cy<B) (h0:hi*B+lo=x*y) (h1:s1+B*c1=lo+cy+0):hi+c1<B∧s1+B*(hi+c1)=x*y+cy:=by
 have e:s1+B*(hi+c1)=x*y+cy:=by grind
 have hxy:x*y≤(B - 1)*(B - 1):=Nat.mul_le_mul (by omega) (by omega);refine⟨?_,e⟩
 rcases Nat.lt_or_ge (hi+c1) B with h|h
 ·exact h
 ·have h3:B*B≤B*(hi+c1):=Nat.mul_le_mul_left _ h
  obtain⟨b,rfl⟩:∃b,B=b+1:=⟨B - 1,by omega⟩
  simp only [Nat.add_sub_cancel] at hxy
  have h4:(b+1)*(b+1)=b*b+2*b+1:=by grind
  omega
theorem take_step {R R' N P Q B t x old new cy bw cy' bw' s:Nat} {V:Nat} (h:R+P*(t*V)=N+P*Q*(cy+bw)) (h1:s+B*cy'=x*t+cy) (h2:new+s+bw=old+B*bw') (h3:R'+P*Q*old=R+P*Q*new):R'+P*(t*(V+Q*x))=N+P*(Q*B)*(cy'+bw'):=by
 have h4:P*Q*(new+s+bw)=P*Q*(old+B*bw'):=by rw [h2]
 have h5:P*Q*(s+B*cy')=P*Q*(x*t+cy):=by rw [h1]
 clear h1 h2;grind
theorem give_step {R R' N P Q B t x old new cy mr cy' mr' s:Nat} {V:Nat} (h:R+P*Q*(cy+mr)=N+P*(t*V)) (h1:s+B*cy'=x*t+cy) (h2:new+B*mr'=old+s+mr) (h3:R'+P*Q*old=R+P*Q*new):R'+P*(Q*B)*(cy'+mr')=N+P*(t*(V+Q*x)):=by
 have h4:P*Q*(new+B*mr')=P*Q*(old+s+mr):=by rw [h2]
 have h5:P*Q*(s+B*cy')=P*Q*(x*t+cy):=by rw [h1]
 clear h1 h2;grind
theorem take_last {R R' N P Q B V t old new cy bw bw':Nat} (h:R+P*(t*V)=N+P*Q*(cy+bw)) (h2:new+cy+bw=old+B*bw') (h3:R'+P*Q*old=R+P*Q*new):R'+P*(t*V)=N+P*(Q*B)*bw':=by
 have h4:P*Q*(new+cy+bw)=P*Q*(old+B*bw'):=by rw [h2]
 clear h2;grind
theorem give_last {R R' N P Q B V t old new cy bw bw':Nat} (h:R+P*Q*(cy+bw)=N+P*(t*V)) (h2:new+B*bw'=old+cy+bw) (h3:R'+P*Q*old=R+P*Q*new):R'+P*(Q*B)*bw'=N+P*(t*V):=by
 have h4:P*Q*(new+B*bw')=P*Q*(old+cy+bw):=by rw [h2]
 clear h2;grind
theorem take_c (g o nu cu gv cv n t:Nat) (us vs:List Nat) (w:World) (hU:PkU w g us) (hus:∀d ∈ us,d<B64) (ho:o+n+1≤us.length) (hnu:n+1≤nu) (hou:us.length≤35184372088832) (hV:Cl w (some ⟨gv,0,none⟩) (vs.map u64)) (hvs:∀d ∈ vs,d<B64) (hn:vs.length=n) (hne:gv≠g) (ht:t<B64):Calls Tryz.prog 119 #[.slice (some ⟨g,o,none⟩) nu cu,.slice (some ⟨gv,0,none⟩) n cv,.int .u64 t] w fun e w'=>∃(us':List Nat) (b:Bool),e=.returned (.bool b)∧us'.length=us.length∧(∀d ∈ us',d<B64)∧PkU w' g us'∧w.grownBy w' (some g)∧(∀i,i<o∨o+n<i→us'.getD i 0=us.getD i 0)∧num B64 us'+B64 ^ o*(t*num B64 vs)=num B64 us+B64 ^ (o+n+1)*(if b then 1 else 0):=by
 have HV:Hid (∀j,j<n→w.cell? ⟨gv,j,none⟩=some (.int .u64 ((vs.getD j 0:Nat):Int))):=fun j hj=>by
  obtain⟨b,o',e,hc⟩:=hV.u (by rw [hn];omega)
  simp only [Option.some.injEq,Addr.mk.injEq,and_true] at e
  obtain⟨rfl,rfl⟩:=e
  have:=hc j (by rw [hn];exact hj)
  simpa using this
 have Hn:=ZZ hn;have Hus:=ZZ hus;have Hvs:=ZZ hvs;have Ht:=ZZ ht;have HU:=ZZ hU;have hgl:=hU.lt;clear hn hus hvs ht hU hV
 go_enter Tryz.func119,Tryz.ntmps119
 go_wp2
 go_loopw [7,8,16] (fun c b i wr=>∃(k cy bw:Nat) (r:List Nat),k≤n∧i=.int .i64 k∧c=.int .u64 cy∧b=.int .u64 bw∧cy<B64∧bw≤1∧r.length=us.length∧(∀d ∈ r,d<B64)∧PkU wr g r∧w.grownBy wr (some g)∧(∀i,i<o∨o+n<i→r.getD i 0=us.getD i 0)∧num B64 r+B64 ^ o*(t*num B64 (vs.take k))=num B64 us+B64 ^ o*B64 ^ k*(cy+bw)) (fun _ _ i _=>n - (intOf i).toNat)
 case atStart=>exact⟨0,0,0,us,Nat.zero_le _,rfl,rfl,rfl,by rw [B64_eq];omega,by omega,rfl,Hus.out,HU.out,World.grownBy.refl _ _,fun _ _=>rfl,by simp⟩
 case round=>
  obtain⟨k,cy,bw,r,hk,rfl,rfl,rfl,hcy,hbw,hr,hrl,hpk,hgr,hout,hnum⟩:=hrel;have Hr:=ZZ hr;have Hrl:=ZZ hrl;have Hpk:=ZZ hpk;have Hnum:=ZZ hnum;have Hout:=ZZ hout;have Hcy:=ZZ hcy;clear hr hrl hpk hnum hout hcy
  by_cases hlt:k<n
  ·have ea:wr.cell? ⟨gv,k,none⟩=some (.int .u64 ((vs.getD k 0:Nat):Int)):=hgr.cell (HV.out k hlt) (by simpa using hne)
   have hxl:=getD_lt Hvs.out (by rw [B64_eq];omega) k;have Htk:Hid (num B64 (vs.take (k+1))=num B64 (vs.take k)+B64 ^ k*vs.getD k 0):=num_take_le _ _ _;generalize vs.getD k 0=x at *;have hci:=Hpk.out.cell (o+k) (by rw [Hr.out];omega);have hfi:=Hpk.out.frozen (o+k);have hol:=getD_lt Hrl.out (by rw [B64_eq];omega) (o+k);have Hns:=ZZ (fun s=>num_set B64 r (o+k) s (by rw [Hr.out];omega));generalize r.getD (o+k) 0=old at *;have Hxl:=ZZ hxl;have Hol:=ZZ hol;clear hxl hol;go_wp2_with fail;refine(mul64_c x t Hxl.out Ht.out _).mono ?_;rintro e w1 ⟨⟨hi,lo,rfl,hhl,hhi,hlo⟩,rfl⟩;obtain⟨s1,c1,hs1,hc1,hsc1,hrun1⟩:=run_add lo cy 0 (by omega) hlo Hcy.out;obtain⟨s2,c2,hs2,hc2,hsc2,hrun2⟩:=run_sub old s1 bw hbw Hol.out hs1;have hrun1':∀w,(callFunc 107 #[.int .u64 lo,.int .u64 cy,.int .u64 0]).run Tryz.prog w=.ok (.value (.tuple #[.int .u64 s1,.int .u64 c1])) w:=hrun1;obtain⟨b1,b2⟩:=mul_bounds2 Hxl.out Ht.out Hcy.out hhl hsc1;obtain⟨h2,hh2⟩:∃z,z=hi+c1:=⟨_,rfl⟩;rw [←hh2] at b1 b2
   have hw1:IntKind.u64.wrap ((hi:Int)+(c1:Int))=((h2:Nat):Int):=by
    rw [IntWalk.u64_in _ (by rw [B64_eq] at b1;omega)];omega
   have B1:=ZZ b1;have B2:=ZZ b2;have Hs2:=ZZ hs2;have Hsc2:=ZZ hsc2;have Hset:=ZZ (Hpk.out.set_ (o+k) s2 (by rw [Hr.out];omega));clear hrun1 hsc1 hsc2 b1 b2 hh2 hs1 hs2 hhl hhi hlo hc1
   go_wp2
   go_roundw
   case rel=>
    refine⟨k+1,h2,c2,r.set (o+k) s2,by omega,by go_num,rfl,rfl,B1.out,hc2,by rw [List.length_set,Hr.out],set_lt Hrl.out Hs2.out _,Hset.out,grown_setCell hgr _ _,fun i hi=>by rw [getD_set_ne (by omega)];exact Hout.out i hi,?_⟩;have h5:=Hns.out s2;rw [Nat.pow_add] at h5;rw [Htk.out,Nat.pow_succ];exact take_step Hnum.out B2.out Hsc2.out h5
   case measure=>simp [intOf];omega
  ·have hkn:k=n:=by omega
   subst hkn;have hci:=Hpk.out.cell (o+k) (by rw [Hr.out];omega);have hfi:=Hpk.out.frozen (o+k);have hol:=getD_lt Hrl.out (by rw [B64_eq];omega) (o+k);have Hns:=ZZ (fun s=>num_set B64 r (o+k) s (by rw [Hr.out];omega));generalize r.getD (o+k) 0=old at *;obtain⟨s2,c2,hs2,hc2,hsc2,hrun2⟩:=run_sub old cy bw hbw hol Hcy.out;have Hs2:=ZZ hs2;have Hsc2:=ZZ hsc2;have Hset:=ZZ (Hpk.out.set_ (o+k) s2 (by rw [Hr.out];omega))
   have hfin:num B64 (r.set (o+k) s2)+B64 ^ o*(t*num B64 vs)=num B64 us+B64 ^ (o+k+1)*c2:=by
    have h5:=num_set B64 r (o+k) s2 (by rw [Hr.out];omega);have h5:=Hns.out s2;rw [Nat.pow_add] at h5;have h6:=Hnum.out;rw [num_take_all B64 vs (by rw [Hn.out];omega)] at h6;rw [show o+k+1=o+(k+1) by omega,Nat.pow_add,Nat.pow_succ];exact take_last h6 hsc2 h5
   have Hfin:=ZZ hfin;have hbit:c2=0∨c2=1:=by omega
   clear hsc2 hs2 hol hfin
   rcases hbit with rfl|rfl
   ·go_wp2
    go_ret;refine⟨r.set (o+k) s2,false,by first|rfl|simp,by rw [List.length_set,Hr.out],set_lt Hrl.out Hs2.out _,Hset.out,grown_setCell hgr _ _,fun i hi=>by rw [getD_set_ne (by omega)];exact Hout.out i hi,?_⟩
    rw [if_neg (by decide)];exact Hfin.out
   ·go_wp2
    go_ret;refine⟨r.set (o+k) s2,true,by first|rfl|simp,by rw [List.length_set,Hr.out],set_lt Hrl.out Hs2.out _,Hset.out,grown_setCell hgr _ _,fun i hi=>by rw [getD_set_ne (by omega)];exact Hout.out i hi,?_⟩
    rw [if_pos rfl];exact Hfin.out
theorem give_c (g o nu cu gv cv n t:Nat) (us vs:List Nat) (w:World) (hU:PkU w g us) (hus:∀d ∈ us,d<B64) (ho:o+n+1≤us.length) (hnu:n+1≤nu) (hou:us.length≤35184372088832) (hV:Cl w (some ⟨gv,0,none⟩) (vs.map u64)) (hvs:∀d ∈ vs,d<B64) (hn:vs.length=n) (hne:gv≠g) (ht:t<B64):Calls Tryz.prog 120 #[.slice (some ⟨g,o,none⟩) nu cu,.slice (some ⟨gv,0,none⟩) n cv,.int .u64 t] w fun e w'=>∃(us':List Nat) (b:Bool),e=.returned (.tuple #[])∧us'.length=us.length∧(∀d ∈ us',d<B64)∧PkU w' g us'∧w.grownBy w' (some g)∧(∀i,i<o∨o+n<i→us'.getD i 0=us.getD i 0)∧num B64 us'+B64 ^ (o+n+1)*(if b then 1 else 0)=num B64 us+B64 ^ o*(t*num B64 vs):=by
 have HV:Hid (∀j,j<n→w.cell? ⟨gv,j,none⟩=some (.int .u64 ((vs.getD j 0:Nat):Int))):=fun j hj=>by
  obtain⟨b,o',e,hc⟩:=hV.u (by rw [hn];omega)
  simp only [Option.some.injEq,Addr.mk.injEq,and_true] at e
  obtain⟨rfl,rfl⟩:=e
  have:=hc j (by rw [hn];exact hj)
  simpa using this
 have Hn:=ZZ hn;have Hus:=ZZ hus;have Hvs:=ZZ hvs;have Ht:=ZZ ht;have HU:=ZZ hU;have hgl:=hU.lt;clear hn hus hvs ht hU hV
 go_enter Tryz.func120,Tryz.ntmps120
 go_wp2
 go_loopw [6,7,15] (fun c b i wr=>∃(k cy bw:Nat) (r:List Nat),k≤n∧i=.int .i64 k∧c=.int .u64 cy∧b=.int .u64 bw∧cy<B64∧bw≤1∧r.length=us.length∧(∀d ∈ r,d<B64)∧PkU wr g r∧w.grownBy wr (some g)∧(∀i,i<o∨o+n<i→r.getD i 0=us.getD i 0)∧num B64 r+B64 ^ o*B64 ^ k*(cy+bw)=num B64 us+B64 ^ o*(t*num B64 (vs.take k))) (fun _ _ i _=>n - (intOf i).toNat)
 case atStart=>exact⟨0,0,0,us,Nat.zero_le _,rfl,rfl,rfl,by rw [B64_eq];omega,by omega,rfl,Hus.out,HU.out,World.grownBy.refl _ _,fun _ _=>rfl,by simp⟩
 case round=>
  obtain⟨k,cy,bw,r,hk,rfl,rfl,rfl,hcy,hbw,hr,hrl,hpk,hgr,hout,hnum⟩:=hrel;have Hr:=ZZ hr;have Hrl:=ZZ hrl;have Hpk:=ZZ hpk;have Hnum:=ZZ hnum;have Hout:=ZZ hout;have Hcy:=ZZ hcy;clear hr hrl hpk hnum hout hcy
  by_cases hlt:k<n
  ·have ea:wr.cell? ⟨gv,k,none⟩=some (.int .u64 ((vs.getD k 0:Nat):Int)):=hgr.cell (HV.out k hlt) (by simpa using hne)
   have hxl:=getD_lt Hvs.out (by rw [B64_eq];omega) k;have Htk:Hid (num B64 (vs.take (k+1))=num B64 (vs.take k)+B64 ^ k*vs.getD k 0):=num_take_le _ _ _;generalize vs.getD k 0=x at *;have hci:=Hpk.out.cell (o+k) (by rw [Hr.out];omega);have hfi:=Hpk.out.frozen (o+k);have hol:=getD_lt Hrl.out (by rw [B64_eq];omega) (o+k);have Hns:=ZZ (fun s=>num_set B64 r (o+k) s (by rw [Hr.out];omega));generalize r.getD (o+k) 0=old at *;have Hxl:=ZZ hxl;have Hol:=ZZ hol;clear hxl hol;go_wp2_with fail;refine(mul64_c x t Hxl.out Ht.out _).mono ?_;rintro e w1 ⟨⟨hi,lo,rfl,hhl,hhi,hlo⟩,rfl⟩;obtain⟨s1,c1,hs1,hc1,hsc1,hrun1⟩:=run_add lo cy 0 (by omega) hlo Hcy.out;obtain⟨s2,c2,hs2,hc2,hsc2,hrun2⟩:=run_add old s1 bw hbw Hol.out hs1;have hrun1':∀w,(callFunc 107 #[.int .u64 lo,.int .u64 cy,.int .u64 0]).run Tryz.prog w=.ok (.value (.tuple #[.int .u64 s1,.int .u64 c1])) w:=hrun1;obtain⟨b1,b2⟩:=mul_bounds2 Hxl.out Ht.out Hcy.out hhl hsc1;obtain⟨h2,hh2⟩:∃z,z=hi+c1:=⟨_,rfl⟩;rw [←hh2] at b1 b2
   have hw1:IntKind.u64.wrap ((hi:Int)+(c1:Int))=((h2:Nat):Int):=by
    rw [IntWalk.u64_in _ (by rw [B64_eq] at b1;omega)];omega
   have B1:=ZZ b1;have B2:=ZZ b2;have Hs2:=ZZ hs2;have Hsc2:=ZZ hsc2;have Hset:=ZZ (Hpk.out.set_ (o+k) s2 (by rw [Hr.out];omega));clear hrun1 hsc1 hsc2 b1 b2 hh2 hs1 hs2 hhl hhi hlo hc1
   go_wp2
   go_roundw
   case rel=>
    refine⟨k+1,h2,c2,r.set (o+k) s2,by omega,by go_num,rfl,rfl,B1.out,hc2,by rw [List.length_set,Hr.out],set_lt Hrl.out Hs2.out _,Hset.out,grown_setCell hgr _ _,fun i hi=>by rw [getD_set_ne (by omega)];exact Hout.out i hi,?_⟩;have h5:=Hns.out s2;rw [Nat.pow_add] at h5;rw [Htk.out,Nat.pow_succ];exact give_step Hnum.out B2.out Hsc2.out h5
   case measure=>simp [intOf];omega
  ·have hkn:k=n:=by omega
   subst hkn;have hci:=Hpk.out.cell (o+k) (by rw [Hr.out];omega);have hfi:=Hpk.out.frozen (o+k);have hol:=getD_lt Hrl.out (by rw [B64_eq];omega) (o+k);have Hns:=ZZ (fun s=>num_set B64 r (o+k) s (by rw [Hr.out];omega));generalize r.getD (o+k) 0=old at *;obtain⟨s2,c2,hs2,hc2,hsc2,hrun2⟩:=run_add old cy bw hbw hol Hcy.out;have Hs2:=ZZ hs2;have Hsc2:=ZZ hsc2;have Hset:=ZZ (Hpk.out.set_ (o+k) s2 (by rw [Hr.out];omega))
   have hfin:num B64 (r.set (o+k) s2)+B64 ^ (o+k+1)*c2=num B64 us+B64 ^ o*(t*num B64 vs):=by
    have h5:=num_set B64 r (o+k) s2 (by rw [Hr.out];omega);have h5:=Hns.out s2;rw [Nat.pow_add] at h5;have h6:=Hnum.out;rw [num_take_all B64 vs (by rw [Hn.out];omega)] at h6;rw [show o+k+1=o+(k+1) by omega,Nat.pow_add,Nat.pow_succ];exact give_last h6 hsc2 h5
   have Hfin:=ZZ hfin;have hbit:c2=0∨c2=1:=by omega
   clear hsc2 hs2 hol hfin
   rcases hbit with rfl|rfl
   ·go_wp2
    go_end0
    refine⟨r.set (o+k) s2,false,by first|rfl|simp,by rw [List.length_set,Hr.out],set_lt Hrl.out Hs2.out _,Hset.out,grown_setCell hgr _ _,fun i hi=>by rw [getD_set_ne (by omega)];exact Hout.out i hi,?_⟩;rw [if_neg (by decide)];exact Hfin.out
   ·go_wp2
    go_end0
    refine⟨r.set (o+k) s2,true,by first|rfl|simp,by rw [List.length_set,Hr.out],set_lt Hrl.out Hs2.out _,Hset.out,grown_setCell hgr _ _,fun i hi=>by rw [getD_set_ne (by omega)];exact Hout.out i hi,?_⟩;rw [if_pos rfl];exact Hfin.out
def DivR (m n:Nat) (w w':World) (e:Ending):Prop:=∃q r:Value,e=.returned (.tuple #[q,r])∧Wd w' q (m / n)∧Wd w' r (m % n)∧Ext w w'
theorem div_less (va vb:Value) (m n:Nat) (w:World) (ha:Wd w va m) (hb:Wd w vb n) (sa:Sm m) (sb:Sm n) (hlt:m<n):Calls Tryz.prog 82 #[va,vb] w fun e w'=>DivR m n w w' e:=by
 have Ha:=ZZ ha;have hc:=cmp_c va vb m n w ha hb sa sb;obtain⟨A,ca,rfl,hca,hA⟩:=ha;obtain⟨B,cb,rfl,hcb,hB⟩:=hb;unfold Sm at sa sb;generalize (dg m).length=p at *;generalize (dg n).length=q at *;have Hc:=ZZ hc;clear hA hB hc
 go_enter Tryz.func82,Tryz.ntmps82
 go_wp2_with fail;refine Hc.out.mono ?_
 rintro e w1 ⟨⟨c,rfl,h1,h2⟩,z,rfl⟩;have h3:c<0:=h1.2 hlt;clear h1 h2;go_wp2_with fail
 go_ret2
 refine⟨_,_,rfl,?_,?_,av _ _⟩
 ·rw [Nat.div_eq_of_lt hlt];exact Wd.zero _
 ·rw [Nat.mod_eq_of_lt hlt];exact Ha.out.mono (av _ _)
theorem div_one (va vb:Value) (m n:Nat) (w:World) (ha:Wd w va m) (hb:Wd w vb n) (sa:Sm m) (hle:n≤m) (h1:(dg n).length=1) (h0:0<n):Calls Tryz.prog 82 #[va,vb] w fun e w'=>DivR m n w w' e:=by
 have Ha:=ZZ ha;have hc:=cmp_c va vb m n w ha hb sa (by unfold Sm;omega)
 have e1:(dg n).getD 0 0=n:=by
  have e:=num_dg n
  match h:dg n,h1 with
  | [d],_=>rw [h] at e;simpa using e
 have hnB:n<B64:=by rw [←e1];exact getD_lt (dg_lt n) (by rw [B64_eq];omega) 0
 have Sa:=ZZ sa;obtain⟨A,ca,rfl,hca,hA⟩:=ha;obtain⟨B,cb,rfl,hcb,hB⟩:=hb;obtain⟨bb,ob,rfl,hcb'⟩:=hB.u (by omega)
 have hcell:w.cell? ⟨bb,ob,none⟩=some (.int .u64 (n:Int)):=by
  have:=hcb' 0 (by omega)
  rw [e1] at this;simpa using this
 unfold Sm at sa;rw [h1] at hcb hc ⊢;generalize (dg m).length=p at *;have Hc:=ZZ hc;have HnB:=ZZ hnB;clear hA hB hc hcb' e1 h1 hnB
 go_enter Tryz.func82,Tryz.ntmps82
 go_wp2_with fail;refine Hc.out.mono ?_
 rintro e w1 ⟨⟨c,rfl,h1,h2⟩,z,rfl⟩;have h3:¬ c<0:=fun h=>by have:=h1.1 h;omega
 clear h1 h2;go_wp2_with fail;refine(by1_c _ m n _ (Ha.out.mono (av _ _)) Sa.out h0 HnB.out).mono ?_;rintro e w2 ⟨⟨v,r,rfl,hr,hv⟩,hext⟩;have hext':=al (av w z) hext;have Hv:=ZZ hv;have Hr:=ZZ hr;clear hv hr hext;go_wp2_with fail;refine(word_c r (by rw [Hr.out];exact Nat.lt_trans (Nat.mod_lt _ h0) HnB.out) _).mono ?_;rintro e w3 ⟨v3,rfl,hv3,hext3⟩;have hext'':=al hext' hext3;go_wp2_with fail
 go_ret2
 refine⟨_,_,rfl,Hv.out.mono hext3,?_,hext''⟩;rw [←Hr.out];exact hv3
end Go.Proofs.YtkoaakefgacokaaGreatDoor
