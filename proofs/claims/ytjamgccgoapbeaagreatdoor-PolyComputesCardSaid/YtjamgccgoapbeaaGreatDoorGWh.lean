/- The reference's natural numbers: cutting, order, small numbers. The program's natural numbers: take and give (a multiple is subtracted, or added, in place). The program's natural numbers: division. -/
import Derived.Test.YtjamgccgoapbeaaGreatDoorGWc
import Derived.Test.YtjamgccgoapbeaaGreatDoorGWf
import Derived.Deep.RegionLawGrows
set_option linter.unusedVariables false
set_option maxRecDepth 100000
set_option maxHeartbeats 64000000
namespace Go.Proofs.YtjamgccgoapbeaaGreatDoor
open Go.RowKit
def Sr (n:Nat):Prop:=(dr n).length≤1099511627776
theorem dr_lt (n:Nat):∀d ∈ dr n,d<B30:=(dr_norm n).lt
def ordN (m n:Nat):Int:=if m<n then -1 else if n<m then 1 else 0
theorem ordN_lt {m n:Nat} (h:m<n):ordN m n = -1:=if_pos h
theorem ordN_gt {m n:Nat} (h:n<m):ordN m n=1:=by unfold ordN;rw [if_neg (by omega),if_pos h]
theorem ordN_eq {m n:Nat} (h:m=n):ordN m n=0:=by unfold ordN;rw [if_neg (by omega),if_neg (by omega)]
theorem rcut_w {A:Option Addr} {l:List Nat} {c:Nat} {w:World} (hl:∀d ∈ l,d<B30) (hA:Cl w A (l.map i64n)) (hc:l.length≤c):Wr w (.slice A (cut l).length c) (num B30 l):=by
 have e:=cut_dig B30_two hl
 have hle:(cut l).length≤l.length:=by
  clear e hA hc hl
  induction l with
  | nil=>simp [cut]
  | cons d l ih=>unfold cut;split <;> simp;omega
 have hpre:∃t,l=cut l ++ t:=by
  clear e hA hc hl hle
  induction l with
  | nil=>exact⟨[],by simp [cut]⟩
  | cons d l ih=>
   obtain⟨t,ht⟩:=ih;unfold cut
   split
   ·exact⟨d :: l,rfl⟩
   ·exact⟨t,by rw [List.cons_append,←ht]⟩
 refine⟨A,c,by unfold dr;rw [←e],by unfold dr;rw [←e];omega,?_⟩;unfold dr;rw [←e]
 rcases hA with h|⟨b,o,h1,h2⟩
 ·left
  have:l=[]:=by simpa using h
  rw [this];rfl
 ·right
  refine⟨b,o,h1,fun j hj=>?_⟩;rw [h2 j (by simp at hj ⊢;omega)];obtain⟨t,ht⟩:=hpre
  conv=>lhs;rw [ht]
  simp at hj
  simp [List.getD_eq_getElem?_getD,List.getElem?_append,hj]
theorem rcut_c (A:Option Addr) (l:List Nat) (c:Nat) (w:World) (hA:Cl w A (l.map i64n)) (n:Nat) (hn:l.length=n) (hc:n≤c) (hs:n≤35184372088832):Calls Tryz.prog 172 #[.slice A n c] w fun e w'=>e=.returned (.slice A (cut l).length c)∧w=w':=by
 subst hn
 go_enter Tryz.func172,Tryz.ntmps172
 go_wp2
 go_loop [3] (fun v=>∃k:Nat,k≤l.length∧v=.int .i64 (k:Int)∧cut (l.take k)=cut l) (fun v=>(intOf v).toNat)
 case atStart=>exact⟨l.length,Nat.le_refl _,rfl,by rw [List.take_length]⟩
 case round=>
  obtain⟨k,hk,rfl,hcut⟩:=hrel;have Hcut:Hid (cut (l.take k)=cut l):=hcut;clear hcut
  rcases k with _|k
  ·have h0:(0:Int)≤(c:Int):=by omega
   go_wp2
   go_ret;refine⟨?_,rfl⟩
   have e:cut l=[]:=by simpa [cut] using Hcut.out.symm
   show Ending.returned (Value.slice A 0 c)=_
   rw [e];rfl
  ·obtain⟨b,o,rfl,hcell⟩:=hA.i (by omega)
   have h0:=hcell k (by omega);have hts:=take_snoc_getD l k (by omega);have Hz:Hid (l.getD k 0=0→cut (l.take k)=cut l):=fun h=>by rw [←Hcut.out,hts,h,cut_snoc_zero]
   have Hn:Hid (l.getD k 0≠0→cut l=l.take (k+1)):=fun h=>by
    rw [←Hcut.out];exact cut_of_last (by rw [hts];simpa using h)
   have hp:(0:Int)<((k+1:Nat):Int):=by omega
   have hkc:((k+1:Nat):Int)≤(c:Int):=by omega
   have hw:IntKind.i64.wrap (((k+1:Nat):Int) - 1)=(k:Int):=(IntWalk.i64_in _ (by omega)).trans (by omega);clear hts hcell hA;generalize l.getD k 0=x at *
   by_cases hx:x=0
   ·have ht:((x:Int) == 0)=true:=by simp;omega
    clear hx;go_wp2_with fail
    go_round
    case rel=>exact⟨k,by omega,by first|rfl|(congr 1;omega),Hz.out (by simpa using ht)⟩
    case measure=>simp [intOf];try omega
   ·have ht:((x:Int) == 0)=false:=by simp;omega
    go_wp2_with fail;go_ret
    refine⟨?_,rfl⟩;rw [Hn.out hx,List.length_take,Nat.min_eq_left (by omega)]
    first|rfl|(congr 3 <;> omega)
theorem order_r (va vb:Value) (m n:Nat) (w:World) (ha:Wr w va m) (hb:Wr w vb n) (sa:Sr m) (sb:Sr n):Calls Tryz.prog 138 #[va,vb] w fun e w'=>e=.returned (.int .i64 (ordN m n))∧∃k,w'=w.drewN k:=by
 obtain⟨A,ca,rfl,hca,hA⟩:=ha;obtain⟨B,cb,rfl,hcb,hB⟩:=hb;have em:=num_dr m;have en:=num_dr n;have nm:=dr_norm m;have nn:=dr_norm n;unfold Sr at sa sb;generalize dr m=xs at *;generalize dr n=ys at *
 rcases Nat.lt_trichotomy xs.length ys.length with hl|hl|hl
 ·have hlt:m<n:=by rw [←em,←en];exact num_lt_of_length B30_two nm.lt nn hl
  have h1:decide ((xs.length:Int)<(ys.length:Int))=true:=by simp;omega
  rw [ordN_lt hlt]
  go_enter Tryz.func138,Tryz.ntmps138
  go_wp2_with fail;go_ret
  exact⟨rfl,0,rfl⟩
 ·have Hl:Hid (xs.length=ys.length):=hl
  have hne:decide ((xs.length:Int)<(ys.length:Int))=false:=by simp;omega
  have hne3:decide (xs.length<ys.length)=false:=by simp;omega
  have hne4:decide (ys.length<xs.length)=false:=by simp;omega
  have hne2:decide ((ys.length:Int)<(xs.length:Int))=false:=by simp;omega
  have hle:xs.length≤ys.length:=by omega
  have hge:ys.length≤xs.length:=by omega
  have Em:Hid (num B30 xs=m):=em;have En:Hid (num B30 ys=n):=en;clear hl em en;have hw0:IntKind.i64.wrap ((xs.length:Int) - 1)=(xs.length:Int) - 1:=IntWalk.i64_in _ (by omega)
  go_enter Tryz.func138,Tryz.ntmps138
  go_wp2_with fail
  go_loopw [5] (fun i wr=>∃k q:Nat,k≤xs.length∧i=.int .i64 ((k:Int) - 1)∧wr=w.drewN q∧xs.drop k=ys.drop k) (fun i _=>(intOf i+1).toNat)
  case atStart=>exact⟨xs.length,0,Nat.le_refl _,rfl,rfl,by rw [List.drop_of_length_le (Nat.le_refl _),List.drop_of_length_le (by omega)]⟩
  case round=>
   obtain⟨k,q,hk,rfl,rfl,hdr⟩:=hrel;have Hdr:Hid (xs.drop k=ys.drop k):=hdr;clear hdr hw0
   by_cases h0:k=0
   ·subst h0
    go_wp2_with fail;go_ret
    have e:xs=ys:=by simpa using Hdr.out
    have e1:m=n:=by rw [←Em.out,←En.out,e]
    rw [ordN_eq e1];exact⟨rfl,_,rfl⟩
   ·obtain⟨k,rfl⟩:∃j,k=j+1:=⟨k - 1,by omega⟩
    obtain⟨ba,oa,rfl,hca'⟩:=hA.i (by omega);obtain⟨bb,ob,rfl,hcb'⟩:=hB.i (by omega);have ea:=hca' k (by omega);have eb:=hcb' k (by omega);clear h0 hca' hcb' hA hB;have h1:=fun h=>num_lt_of_top nm.lt Hl.out k (by omega) Hdr.out h;have h2:=fun h=>num_lt_of_top nn.lt Hl.out.symm k (by omega) Hdr.out.symm h;have H1:Hid (xs.getD k 0<ys.getD k 0→m<n):=fun h=>by have:=h1 h;rw [Em.out,En.out] at this;exact this
    have H2:Hid (ys.getD k 0<xs.getD k 0→n<m):=fun h=>by have:=h2 h;rw [Em.out,En.out] at this;exact this
    have H3:Hid (xs.getD k 0=ys.getD k 0→xs.drop k=ys.drop k):=fun h=>drop_eq_of (by omega) (by omega) Hdr.out h;clear h1 h2;generalize xs.getD k 0=x at *;generalize ys.getD k 0=y at *
    rcases Nat.lt_trichotomy x y with hxy|hxy|hxy
    ·have t2:decide ((x:Int)<(y:Int))=true:=by simp;omega
     go_wp2_with fail
     go_quiet (fail)
     go_wp2_with fail;go_ret
     rw [ordN_lt (H1.out hxy)];exact⟨rfl,_,by first|exact drewN2 _ _ _|exact drewN3 _ _ _ _⟩
    ·subst hxy
     have t1:decide ((x:Int)<(x:Int))=false:=by simp
     go_wp2_with fail
     go_quiet (fail)
     go_wp2_with fail
     go_quiet (fail)
     go_wp2_with fail
     go_roundw
     case rel=>exact⟨k,_,by omega,by simp,by first|rfl|exact drewN2 _ _ _|exact drewN3 _ _ _ _,H3.out (by first|rfl|trivial)⟩
     case measure=>simp [intOf]
    ·have t2:decide ((x:Int)<(y:Int))=false:=by simp;omega
     have t3:decide ((y:Int)<(x:Int))=true:=by simp;omega
     go_wp2_with fail
     go_quiet (fail)
     go_wp2_with fail
     go_quiet (fail)
     go_wp2_with fail;go_ret
     rw [ordN_gt (H2.out hxy)];exact⟨rfl,_,by first|exact drewN2 _ _ _|exact drewN3 _ _ _ _⟩
 ·have hlt:n<m:=by rw [←em,←en];exact num_lt_of_length B30_two nn.lt nm hl
  have h1:decide ((xs.length:Int)<(ys.length:Int))=false:=by simp;omega
  have h2:decide ((ys.length:Int)<(xs.length:Int))=true:=by simp;omega
  rw [ordN_gt hlt]
  go_enter Tryz.func138,Tryz.ntmps138
  go_wp2_with fail;go_ret
  exact⟨rfl,0,rfl⟩
end Go.Proofs.YtjamgccgoapbeaaGreatDoor
set_option linter.unusedVariables false
set_option maxRecDepth 100000
set_option maxHeartbeats 64000000
namespace Go.Proofs.YtjamgccgoapbeaaGreatDoor
open Go.RowKit
def PkU (w:World) (g:Nat) (l:List Nat):Prop:=∃cs:Array Value,w.heap[g]?=some (.cells cs 96 (0,0))∧l.length≤cs.size∧∀i,i<l.length→cs[i]?=some (.int .u64 ((l.getD i 0:Nat):Int))
theorem BkU.pk {w:World} {g:Nat} {l:List Nat} (h:BkU w g l):PkU w g l:=
 ⟨_,h,by simp,fun i hi=>by simp [hi,u64,List.getD_eq_getElem?_getD]⟩
theorem PkU.lt {w:World} {g:Nat} {l:List Nat} (h:PkU w g l):g<w.heap.size:=by
 obtain⟨cs,h,_⟩:=h
 rcases Nat.lt_or_ge g w.heap.size with hlt|hge
 ·exact hlt
 ·rw [Array.getElem?_eq_none hge] at h;cases h
theorem PkU.cell {w:World} {g:Nat} {l:List Nat} (h:PkU w g l) (i:Nat) (hi:i<l.length):w.cell? ⟨g,i,none⟩=some (.int .u64 ((l.getD i 0:Nat):Int)):=by
 obtain⟨cs,h1,h2,h3⟩:=h;rw [cell_of_row w g i _ _ _ h1];exact h3 i hi
theorem PkU.frozen {w:World} {g:Nat} {l:List Nat} (h:PkU w g l) (i:Nat):w.frozen? ⟨g,i,none⟩=false:=by
 obtain⟨cs,h1,h2,h3⟩:=h;exact frozen_of_row w g i _ _ h1
theorem PkU.set_ {w:World} {g:Nat} {l:List Nat} (h:PkU w g l) (i v:Nat) (hi:i<l.length):PkU (w.setCell ⟨g,i,none⟩ (.int .u64 (v:Int))) g (l.set i v):=by
 obtain⟨cs,h1,h2,h3⟩:=h;refine⟨cs.setIfInBounds i (.int .u64 (v:Int)),?_,by simpa using h2,fun j hj=>?_⟩
 ·simp only [World.setCell,Array.getElem?_modify,h1];simp
 ·simp only [List.length_set] at hj
  rw [Array.getElem?_setIfInBounds]
  by_cases e:i=j
  ·subst e
   rw [if_pos rfl,if_pos (by omega)]
   simp [List.getD_eq_getElem?_getD,hi]
  ·rw [if_neg e,h3 j hj,getD_set_ne e]
theorem PkU.same {w w':World} {g:Nat} {l:List Nat} (h:PkU w g l) (e:w'.heap[g]?=w.heap[g]?):PkU w' g l:=by
 obtain⟨cs,h1,h2,h3⟩:=h;exact⟨cs,e.trans h1,h2,h3⟩
theorem PkU.ext {w w':World} {g:Nat} {l:List Nat} (h:PkU w g l) (k:Ext w w'):PkU w' g l:=h.same (k.block g h.lt)
theorem PkU.take_ {w:World} {g:Nat} {l:List Nat} (h:PkU w g l) (k:Nat):PkU w g (l.take k):=by
 obtain⟨cs,h1,h2,h3⟩:=h;refine⟨cs,h1,by simp;omega,fun i hi=>?_⟩;rw [List.length_take] at hi;have h4:i<k:=by omega
 rw [h3 i (by omega)]
 simp [List.getD_eq_getElem?_getD,h4]
theorem PkU.cl {w:World} {g:Nat} {l:List Nat} (h:PkU w g l):Cl w (some ⟨g,0,none⟩) (l.map u64):=by
 obtain⟨cs,h1,h2,h3⟩:=h
 exact cl_block h1 (fun j hj=>by
  simp only [List.length_map] at hj
  rw [Nat.zero_add,h3 j hj,getD_map_u64 l j hj])
theorem grown_setCell {w w':World} {g:Nat} (h:w.grownBy w' (some g)) (i:Nat) (v:Value):w.grownBy (w'.setCell ⟨g,i,none⟩ v) (some g):=
 ⟨h.os,h.tape,h.output,by simpa [World.setCell] using h.size,fun k hk hne=>(Below.heap_setCell w' _ v k (by rintro rfl;exact hne rfl)).trans (h.block k hk hne)⟩
theorem mul_bounds2 {B x y cy hi lo s1 c1:Nat} (hx:x<B) (hy:y<B) (hcy:cy<B) (h0:hi*B+lo=x*y) (h1:s1+B*c1=lo+cy+0):hi+c1<B∧s1+B*(hi+c1)=x*y+cy:=by
 have e:s1+B*(hi+c1)=x*y+cy:=by grind
 have hxy:x*y≤(B - 1)*(B - 1):=Nat.mul_le_mul (by omega) (by omega);refine⟨?_,e⟩
 rcases Nat.lt_or_ge (hi+c1) B with h|h
 ·exact h
 ·have h3:B*B≤B*(hi+c1):=Nat.mul_le_mul_left _ h
  obtain⟨b,rfl⟩:∃b,B=b+1:=⟨B - 1,by omega⟩
  simp only [Nat.add_sub_cancel] at hxy
  have h4:(b+1)*(b+1)=b*b+2*b+1:=by grind
  omega
theorem take_step {R R' N P Q B t x old new cy bw cy' bw' s:Nat} {V:Nat} (h:R+P*(t*V)=N+P*Q*(cy+bw)) (h1:s+B*cy'=x*t+cy) (h2:new+s+bw=old+B*bw') (h3:R'+P*Q*old=R+P*Q*new):R'+P*(t*(V+Q*x))=N+P*(Q*B)*(cy'+bw'):=by
 have h4:P*Q*(new+s+bw)=P*Q*(old+B*bw'):=by rw [h2]
 have h5:P*Q*(s+B*cy')=P*Q*(x*t+cy):=by rw [h1]
 clear h1 h2;grind
theorem give_step {R R' N P Q B t x old new cy mr cy' mr' s:Nat} {V:Nat} (h:R+P*Q*(cy+mr)=N+P*(t*V)) (h1:s+B*cy'=x*t+cy) (h2:new+B*mr'=old+s+mr) (h3:R'+P*Q*old=R+P*Q*new):R'+P*(Q*B)*(cy'+mr')=N+P*(t*(V+Q*x)):=by
 have h4:P*Q*(new+B*mr')=P*Q*(old+s+mr):=by rw [h2]
 have h5:P*Q*(s+B*cy')=P*Q*(x*t+cy):=by rw [h1]
 clear h1 h2;grind
theorem take_last {R R' N P Q B V t old new cy bw bw':Nat} (h:R+P*(t*V)=N+P*Q*(cy+bw)) (h2:new+cy+bw=old+B*bw') (h3:R'+P*Q*old=R+P*Q*new):R'+P*(t*V)=N+P*(Q*B)*bw':=by
 have h4:P*Q*(new+cy+bw)=P*Q*(old+B*bw'):=by rw [h2]
 clear h2;grind
theorem give_last {R R' N P Q B V t old new cy bw bw':Nat} (h:R+P*Q*(cy+bw)=N+P*(t*V)) (h2:new+B*bw'=old+cy+bw) (h3:R'+P*Q*old=R+P*Q*new):R'+P*(Q*B)*bw'=N+P*(t*V):=by
 have h4:P*Q*(new+B*bw')=P*Q*(old+cy+bw):=by rw [h2]
 clear h2;grind
theorem take_c (g o nu cu gv cv n t:Nat) (us vs:List Nat) (w:World) (hU:PkU w g us) (hus:∀d ∈ us,d<B64) (ho:o+n+1≤us.length) (hnu:n+1≤nu) (hou:us.length≤35184372088832) (hV:Cl w (some ⟨gv,0,none⟩) (vs.map u64)) (hvs:∀d ∈ vs,d<B64) (hn:vs.length=n) (hne:gv≠g) (ht:t<B64):Calls Tryz.prog 150 #[.slice (some ⟨g,o,none⟩) nu cu,.slice (some ⟨gv,0,none⟩) n cv,.int .u64 t] w fun e w'=>∃(us':List Nat) (b:Bool),e=.returned (.bool b)∧us'.length=us.length∧(∀d ∈ us',d<B64)∧PkU w' g us'∧w.grownBy w' (some g)∧(∀i,i<o∨o+n<i→us'.getD i 0=us.getD i 0)∧num B64 us'+B64 ^ o*(t*num B64 vs)=num B64 us+B64 ^ (o+n+1)*(if b then 1 else 0):=by
 have HV:Hid (∀j,j<n→w.cell? ⟨gv,j,none⟩=some (.int .u64 ((vs.getD j 0:Nat):Int))):=fun j hj=>by
  obtain⟨b,o',e,hc⟩:=hV.u (by rw [hn];omega)
  simp only [Option.some.injEq,Addr.mk.injEq,and_true] at e
  obtain⟨rfl,rfl⟩:=e
  have:=hc j (by rw [hn];exact hj)
  simpa using this
 have Hn:=ZZ hn;have Hus:=ZZ hus;have Hvs:=ZZ hvs;have Ht:=ZZ ht;have HU:=ZZ hU;have hgl:=hU.lt;clear hn hus hvs ht hU hV
 go_enter Tryz.func150,Tryz.ntmps150
 go_wp2
 go_loopw [7,8,16] (fun c b i wr=>∃(k cy bw:Nat) (r:List Nat),k≤n∧i=.int .i64 k∧c=.int .u64 cy∧b=.int .u64 bw∧cy<B64∧bw≤1∧r.length=us.length∧(∀d ∈ r,d<B64)∧PkU wr g r∧w.grownBy wr (some g)∧(∀i,i<o∨o+n<i→r.getD i 0=us.getD i 0)∧num B64 r+B64 ^ o*(t*num B64 (vs.take k))=num B64 us+B64 ^ o*B64 ^ k*(cy+bw)) (fun _ _ i _=>n - (intOf i).toNat)
 case atStart=>exact⟨0,0,0,us,Nat.zero_le _,rfl,rfl,rfl,by rw [B64_eq];omega,by omega,rfl,Hus.out,HU.out,World.grownBy.refl _ _,fun _ _=>rfl,by simp⟩
 case round=>
  obtain⟨k,cy,bw,r,hk,rfl,rfl,rfl,hcy,hbw,hr,hrl,hpk,hgr,hout,hnum⟩:=hrel;have Hr:=ZZ hr;have Hrl:=ZZ hrl;have Hpk:=ZZ hpk;have Hnum:=ZZ hnum;have Hout:=ZZ hout;have Hcy:=ZZ hcy;clear hr hrl hpk hnum hout hcy
  by_cases hlt:k<n
  ·have ea:wr.cell? ⟨gv,k,none⟩=some (.int .u64 ((vs.getD k 0:Nat):Int)):=hgr.cell (HV.out k hlt) (by simpa using hne)
   have hxl:=getD_lt Hvs.out (by rw [B64_eq];omega) k;have Htk:Hid (num B64 (vs.take (k+1))=num B64 (vs.take k)+B64 ^ k*vs.getD k 0):=num_take_le _ _ _;generalize vs.getD k 0=x at *;have hci:=Hpk.out.cell (o+k) (by rw [Hr.out];omega);have hfi:=Hpk.out.frozen (o+k);have hol:=getD_lt Hrl.out (by rw [B64_eq];omega) (o+k);have Hns:=ZZ (fun s=>num_set B64 r (o+k) s (by rw [Hr.out];omega));generalize r.getD (o+k) 0=old at *;have Hxl:=ZZ hxl;have Hol:=ZZ hol;clear hxl hol;go_wp2_with fail;refine(mul64_c x t Hxl.out Ht.out _).mono ?_;rintro e w1 ⟨⟨hi,lo,rfl,hhl,hhi,hlo⟩,rfl⟩;obtain⟨s1,c1,hs1,hc1,hsc1,hrun1⟩:=run_add lo cy 0 (by omega) hlo Hcy.out;obtain⟨s2,c2,hs2,hc2,hsc2,hrun2⟩:=run_sub old s1 bw hbw Hol.out hs1;have hrun1':∀w,(callFunc 122 #[.int .u64 lo,.int .u64 cy,.int .u64 0]).run Tryz.prog w=.ok (.value (.tuple #[.int .u64 s1,.int .u64 c1])) w:=hrun1;obtain⟨b1,b2⟩:=mul_bounds2 Hxl.out Ht.out Hcy.out hhl hsc1;obtain⟨h2,hh2⟩:∃z,z=hi+c1:=⟨_,rfl⟩;rw [←hh2] at b1 b2
   have hw1:IntKind.u64.wrap ((hi:Int)+(c1:Int))=((h2:Nat):Int):=by
    rw [IntWalk.u64_in _ (by rw [B64_eq] at b1;omega)];omega
   have B1:=ZZ b1;have B2:=ZZ b2;have Hs2:=ZZ hs2;have Hsc2:=ZZ hsc2;have Hset:=ZZ (Hpk.out.set_ (o+k) s2 (by rw [Hr.out];omega));clear hrun1 hsc1 hsc2 b1 b2 hh2 hs1 hs2 hhl hhi hlo hc1
   go_wp2
   go_roundw
   case rel=>
    refine⟨k+1,h2,c2,r.set (o+k) s2,by omega,by go_num,rfl,rfl,B1.out,hc2,by rw [List.length_set,Hr.out],set_lt Hrl.out Hs2.out _,Hset.out,grown_setCell hgr _ _,fun i hi=>by rw [getD_set_ne (by omega)];exact Hout.out i hi,?_⟩;have h5:=Hns.out s2;rw [Nat.pow_add] at h5;rw [Htk.out,Nat.pow_succ];exact take_step Hnum.out B2.out Hsc2.out h5
   case measure=>simp [intOf];omega
  ·have hkn:k=n:=by omega
   subst hkn;have hci:=Hpk.out.cell (o+k) (by rw [Hr.out];omega);have hfi:=Hpk.out.frozen (o+k);have hol:=getD_lt Hrl.out (by rw [B64_eq];omega) (o+k);have Hns:=ZZ (fun s=>num_set B64 r (o+k) s (by rw [Hr.out];omega));generalize r.getD (o+k) 0=old at *;obtain⟨s2,c2,hs2,hc2,hsc2,hrun2⟩:=run_sub old cy bw hbw hol Hcy.out;have Hs2:=ZZ hs2;have Hsc2:=ZZ hsc2;have Hset:=ZZ (Hpk.out.set_ (o+k) s2 (by rw [Hr.out];omega))
   have hfin:num B64 (r.set (o+k) s2)+B64 ^ o*(t*num B64 vs)=num B64 us+B64 ^ (o+k+1)*c2:=by
    have h5:=num_set B64 r (o+k) s2 (by rw [Hr.out];omega);have h5:=Hns.out s2;rw [Nat.pow_add] at h5;have h6:=Hnum.out;rw [num_take_all B64 vs (by rw [Hn.out];omega)] at h6;rw [show o+k+1=o+(k+1) by omega,Nat.pow_add,Nat.pow_succ];exact take_last h6 hsc2 h5
   have Hfin:=ZZ hfin;have hbit:c2=0∨c2=1:=by omega
   clear hsc2 hs2 hol hfin
   rcases hbit with rfl|rfl
   ·go_wp2
    go_ret;refine⟨r.set (o+k) s2,false,by first|rfl|simp,by rw [List.length_set,Hr.out],set_lt Hrl.out Hs2.out _,Hset.out,grown_setCell hgr _ _,fun i hi=>by rw [getD_set_ne (by omega)];exact Hout.out i hi,?_⟩
    rw [if_neg (by decide)];exact Hfin.out
   ·go_wp2
    go_ret;refine⟨r.set (o+k) s2,true,by first|rfl|simp,by rw [List.length_set,Hr.out],set_lt Hrl.out Hs2.out _,Hset.out,grown_setCell hgr _ _,fun i hi=>by rw [getD_set_ne (by omega)];exact Hout.out i hi,?_⟩
    rw [if_pos rfl];exact Hfin.out
theorem give_c (g o nu cu gv cv n t:Nat) (us vs:List Nat) (w:World) (hU:PkU w g us) (hus:∀d ∈ us,d<B64) (ho:o+n+1≤us.length) (hnu:n+1≤nu) (hou:us.length≤35184372088832) (hV:Cl w (some ⟨gv,0,none⟩) (vs.map u64)) (hvs:∀d ∈ vs,d<B64) (hn:vs.length=n) (hne:gv≠g) (ht:t<B64):Calls Tryz.prog 151 #[.slice (some ⟨g,o,none⟩) nu cu,.slice (some ⟨gv,0,none⟩) n cv,.int .u64 t] w fun e w'=>∃(us':List Nat) (b:Bool),e=.returned (.tuple #[])∧us'.length=us.length∧(∀d ∈ us',d<B64)∧PkU w' g us'∧w.grownBy w' (some g)∧(∀i,i<o∨o+n<i→us'.getD i 0=us.getD i 0)∧num B64 us'+B64 ^ (o+n+1)*(if b then 1 else 0)=num B64 us+B64 ^ o*(t*num B64 vs):=by
 have HV:Hid (∀j,j<n→w.cell? ⟨gv,j,none⟩=some (.int .u64 ((vs.getD j 0:Nat):Int))):=fun j hj=>by
  obtain⟨b,o',e,hc⟩:=hV.u (by rw [hn];omega)
  simp only [Option.some.injEq,Addr.mk.injEq,and_true] at e
  obtain⟨rfl,rfl⟩:=e
  have:=hc j (by rw [hn];exact hj)
  simpa using this
 have Hn:=ZZ hn;have Hus:=ZZ hus;have Hvs:=ZZ hvs;have Ht:=ZZ ht;have HU:=ZZ hU;have hgl:=hU.lt;clear hn hus hvs ht hU hV
 go_enter Tryz.func151,Tryz.ntmps151
 go_wp2
 go_loopw [6,7,15] (fun c b i wr=>∃(k cy bw:Nat) (r:List Nat),k≤n∧i=.int .i64 k∧c=.int .u64 cy∧b=.int .u64 bw∧cy<B64∧bw≤1∧r.length=us.length∧(∀d ∈ r,d<B64)∧PkU wr g r∧w.grownBy wr (some g)∧(∀i,i<o∨o+n<i→r.getD i 0=us.getD i 0)∧num B64 r+B64 ^ o*B64 ^ k*(cy+bw)=num B64 us+B64 ^ o*(t*num B64 (vs.take k))) (fun _ _ i _=>n - (intOf i).toNat)
 case atStart=>exact⟨0,0,0,us,Nat.zero_le _,rfl,rfl,rfl,by rw [B64_eq];omega,by omega,rfl,Hus.out,HU.out,World.grownBy.refl _ _,fun _ _=>rfl,by simp⟩
 case round=>
  obtain⟨k,cy,bw,r,hk,rfl,rfl,rfl,hcy,hbw,hr,hrl,hpk,hgr,hout,hnum⟩:=hrel;have Hr:=ZZ hr;have Hrl:=ZZ hrl;have Hpk:=ZZ hpk;have Hnum:=ZZ hnum;have Hout:=ZZ hout;have Hcy:=ZZ hcy;clear hr hrl hpk hnum hout hcy
  by_cases hlt:k<n
  ·have ea:wr.cell? ⟨gv,k,none⟩=some (.int .u64 ((vs.getD k 0:Nat):Int)):=hgr.cell (HV.out k hlt) (by simpa using hne)
   have hxl:=getD_lt Hvs.out (by rw [B64_eq];omega) k;have Htk:Hid (num B64 (vs.take (k+1))=num B64 (vs.take k)+B64 ^ k*vs.getD k 0):=num_take_le _ _ _;generalize vs.getD k 0=x at *;have hci:=Hpk.out.cell (o+k) (by rw [Hr.out];omega);have hfi:=Hpk.out.frozen (o+k);have hol:=getD_lt Hrl.out (by rw [B64_eq];omega) (o+k);have Hns:=ZZ (fun s=>num_set B64 r (o+k) s (by rw [Hr.out];omega));generalize r.getD (o+k) 0=old at *;have Hxl:=ZZ hxl;have Hol:=ZZ hol;clear hxl hol;go_wp2_with fail;refine(mul64_c x t Hxl.out Ht.out _).mono ?_;rintro e w1 ⟨⟨hi,lo,rfl,hhl,hhi,hlo⟩,rfl⟩;obtain⟨s1,c1,hs1,hc1,hsc1,hrun1⟩:=run_add lo cy 0 (by omega) hlo Hcy.out;obtain⟨s2,c2,hs2,hc2,hsc2,hrun2⟩:=run_add old s1 bw hbw Hol.out hs1;have hrun1':∀w,(callFunc 122 #[.int .u64 lo,.int .u64 cy,.int .u64 0]).run Tryz.prog w=.ok (.value (.tuple #[.int .u64 s1,.int .u64 c1])) w:=hrun1;obtain⟨b1,b2⟩:=mul_bounds2 Hxl.out Ht.out Hcy.out hhl hsc1;obtain⟨h2,hh2⟩:∃z,z=hi+c1:=⟨_,rfl⟩;rw [←hh2] at b1 b2
   have hw1:IntKind.u64.wrap ((hi:Int)+(c1:Int))=((h2:Nat):Int):=by
    rw [IntWalk.u64_in _ (by rw [B64_eq] at b1;omega)];omega
   have B1:=ZZ b1;have B2:=ZZ b2;have Hs2:=ZZ hs2;have Hsc2:=ZZ hsc2;have Hset:=ZZ (Hpk.out.set_ (o+k) s2 (by rw [Hr.out];omega));clear hrun1 hsc1 hsc2 b1 b2 hh2 hs1 hs2 hhl hhi hlo hc1
   go_wp2
   go_roundw
   case rel=>
    refine⟨k+1,h2,c2,r.set (o+k) s2,by omega,by go_num,rfl,rfl,B1.out,hc2,by rw [List.length_set,Hr.out],set_lt Hrl.out Hs2.out _,Hset.out,grown_setCell hgr _ _,fun i hi=>by rw [getD_set_ne (by omega)];exact Hout.out i hi,?_⟩;have h5:=Hns.out s2;rw [Nat.pow_add] at h5;rw [Htk.out,Nat.pow_succ];exact give_step Hnum.out B2.out Hsc2.out h5
   case measure=>simp [intOf];omega
  ·have hkn:k=n:=by omega
   subst hkn;have hci:=Hpk.out.cell (o+k) (by rw [Hr.out];omega);have hfi:=Hpk.out.frozen (o+k);have hol:=getD_lt Hrl.out (by rw [B64_eq];omega) (o+k);have Hns:=ZZ (fun s=>num_set B64 r (o+k) s (by rw [Hr.out];omega));generalize r.getD (o+k) 0=old at *;obtain⟨s2,c2,hs2,hc2,hsc2,hrun2⟩:=run_add old cy bw hbw hol Hcy.out;have Hs2:=ZZ hs2;have Hsc2:=ZZ hsc2;have Hset:=ZZ (Hpk.out.set_ (o+k) s2 (by rw [Hr.out];omega))
   have hfin:num B64 (r.set (o+k) s2)+B64 ^ (o+k+1)*c2=num B64 us+B64 ^ o*(t*num B64 vs):=by
    have h5:=num_set B64 r (o+k) s2 (by rw [Hr.out];omega);have h5:=Hns.out s2;rw [Nat.pow_add] at h5;have h6:=Hnum.out;rw [num_take_all B64 vs (by rw [Hn.out];omega)] at h6;rw [show o+k+1=o+(k+1) by omega,Nat.pow_add,Nat.pow_succ];exact give_last h6 hsc2 h5
   have Hfin:=ZZ hfin;have hbit:c2=0∨c2=1:=by omega
   clear hsc2 hs2 hol hfin
   rcases hbit with rfl|rfl
   ·go_wp2
    go_end0
    refine⟨r.set (o+k) s2,false,by first|rfl|simp,by rw [List.length_set,Hr.out],set_lt Hrl.out Hs2.out _,Hset.out,grown_setCell hgr _ _,fun i hi=>by rw [getD_set_ne (by omega)];exact Hout.out i hi,?_⟩;rw [if_neg (by decide)];exact Hfin.out
   ·go_wp2
    go_end0
    refine⟨r.set (o+k) s2,true,by first|rfl|simp,by rw [List.length_set,Hr.out],set_lt Hrl.out Hs2.out _,Hset.out,grown_setCell hgr _ _,fun i hi=>by rw [getD_set_ne (by omega)];exact Hout.out i hi,?_⟩;rw [if_pos rfl];exact Hfin.out
end Go.Proofs.YtjamgccgoapbeaaGreatDoor
set_option linter.unusedVariables false
set_option maxRecDepth 100000
set_option maxHeartbeats 64000000
namespace Go.Proofs.YtjamgccgoapbeaaGreatDoor
open Go.RowKit
def DivR (m n:Nat) (w w':World) (e:Ending):Prop:=∃q r:Value,e=.returned (.tuple #[q,r])∧Wd w' q (m / n)∧Wd w' r (m % n)∧Ext w w'
theorem div_less (va vb:Value) (m n:Nat) (w:World) (ha:Wd w va m) (hb:Wd w vb n) (sa:Sm m) (sb:Sm n) (hlt:m<n):Calls Tryz.prog 108 #[va,vb] w fun e w'=>DivR m n w w' e:=by
 have Ha:=ZZ ha;have hc:=cmp_c va vb m n w ha hb sa sb;obtain⟨A,ca,rfl,hca,hA⟩:=ha;obtain⟨B,cb,rfl,hcb,hB⟩:=hb;unfold Sm at sa sb;generalize (dg m).length=p at *;generalize (dg n).length=q at *;have Hc:=ZZ hc;clear hA hB hc
 go_enter Tryz.func108,Tryz.ntmps108
 go_wp2_with fail;refine Hc.out.mono ?_
 rintro e w1 ⟨⟨c,rfl,h1,h2⟩,z,rfl⟩;have h3:c<0:=h1.2 hlt;clear h1 h2;go_wp2_with fail
 go_ret2
 refine⟨_,_,rfl,?_,?_,aA _ _⟩
 ·rw [Nat.div_eq_of_lt hlt];exact Wd.zero _
 ·rw [Nat.mod_eq_of_lt hlt];exact Ha.out.mono (aA _ _)
theorem div_one (va vb:Value) (m n:Nat) (w:World) (ha:Wd w va m) (hb:Wd w vb n) (sa:Sm m) (hle:n≤m) (h1:(dg n).length=1) (h0:0<n):Calls Tryz.prog 108 #[va,vb] w fun e w'=>DivR m n w w' e:=by
 have Ha:=ZZ ha;have hc:=cmp_c va vb m n w ha hb sa (by unfold Sm;omega)
 have e1:(dg n).getD 0 0=n:=by
  have e:=num_dg n
  match h:dg n,h1 with
  | [d],_=>rw [h] at e;simpa using e
 have hnB:n<B64:=by rw [←e1];exact getD_lt (dg_lt n) (by rw [B64_eq];omega) 0
 have Sa:=ZZ sa;obtain⟨A,ca,rfl,hca,hA⟩:=ha;obtain⟨B,cb,rfl,hcb,hB⟩:=hb;obtain⟨bb,ob,rfl,hcb'⟩:=hB.u (by omega)
 have hcell:w.cell? ⟨bb,ob,none⟩=some (.int .u64 (n:Int)):=by
  have:=hcb' 0 (by omega)
  rw [e1] at this;simpa using this
 unfold Sm at sa;rw [h1] at hcb hc ⊢;generalize (dg m).length=p at *;have Hc:=ZZ hc;have HnB:=ZZ hnB;clear hA hB hc hcb' e1 h1 hnB
 go_enter Tryz.func108,Tryz.ntmps108
 go_wp2_with fail;refine Hc.out.mono ?_
 rintro e w1 ⟨⟨c,rfl,h1,h2⟩,z,rfl⟩;have h3:¬ c<0:=fun h=>by have:=h1.1 h;omega
 clear h1 h2;go_wp2_with fail;refine(by1_c _ m n _ (Ha.out.mono (aA _ _)) Sa.out h0 HnB.out).mono ?_;rintro e w2 ⟨⟨v,r,rfl,hr,hv⟩,hext⟩;have hext':=am (aA w z) hext;have Hv:=ZZ hv;have Hr:=ZZ hr;clear hv hr hext;go_wp2_with fail;refine(word_c r (by rw [Hr.out];exact Nat.lt_trans (Nat.mod_lt _ h0) HnB.out) _).mono ?_;rintro e w3 ⟨v3,rfl,hv3,hext3⟩;have hext'':=am hext' hext3;go_wp2_with fail
 go_ret2
 refine⟨_,_,rfl,Hv.out.mono hext3,?_,hext''⟩;rw [←Hr.out];exact hv3
end Go.Proofs.YtjamgccgoapbeaaGreatDoor
