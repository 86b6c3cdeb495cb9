/- The program's natural numbers: the greatest common divisor. -/
import Derived.Test.YtkoaakefgacokaaGreatDoorGWi
import Derived.Deep.LoopGhost
import Derived.Test.YtkoaakefgacokaaGreatDoorGWf
set_option linter.unusedVariables false
set_option maxRecDepth 100000
set_option maxHeartbeats 64000000
namespace Go.Proofs.YtkoaakefgacokaaGreatDoor
open Go.RowKit
theorem dg_one_word {n:Nat} (h1:(dg n).length=1):(dg n).getD 0 0=n∧n<B64:=by
 have e1:(dg n).getD 0 0=n:=by
  have e:=num_dg n
  match h:dg n,h1 with
  | [d],_=>rw [h] at e;simpa using e
 exact⟨e1,by rw [←e1];exact getD_lt (dg_lt n) (by rw [B64_eq];omega) 0⟩
theorem sm_lt {m n:Nat} (h:m≤n) (k:Sm n):Sm m:=Nat.le_trans (dig_length_mono B64_two h) k
theorem divisor_c (va vb:Value) (m n:Nat) (w:World) (ha:Wd w va m) (hb:Wd w vb n) (sa:Sm m) (sb:Sm n) (hm:0<m):Calls Tryz.prog 52 #[va,vb] w fun e w'=>∃v,e=.returned v∧Wd w' v (Nat.gcd m n)∧Ext w w':=by
 obtain⟨G,hG⟩:∃G,G=Nat.gcd m n:=⟨_,rfl⟩;rw [←hG];have HG:=ZZ hG;have Ha:=ZZ ha;have Hb:=ZZ hb;have Sa:=ZZ sa;have Sb:=ZZ sb;have Hm:=ZZ hm;clear hG ha hb sa sb hm
 go_enter Tryz.func52,Tryz.ntmps52
 go_wp2_with fail
 go_loopg [0,1,5,6] n (fun k a b _ _ wr=>∃m',Wd wr a m'∧Wd wr b k∧0<m'∧Sm m'∧Sm k∧Nat.gcd m' k=G∧Ext w wr)
 case atStart=>exact⟨m,Ha.out,Hb.out,Hm.out,Sa.out,Sb.out,HG.out.symm,ae _⟩
 case round=>
  obtain⟨m',ha,hb,hm,sa,sb,hg,hext⟩:=hrel;have Ha':=ZZ ha;have Hb':=ZZ hb;have Sa':=ZZ sa;have Sb':=ZZ sb;have Hm':=ZZ hm;have Hg':=ZZ hg;have Hext:=ZZ hext;obtain⟨A,ca,rfl,hca,hA⟩:=ha;obtain⟨B,cb,rfl,hcb,hB⟩:=hb;obtain⟨p,hp⟩:∃p,(dg m').length=p:=⟨_,rfl⟩;obtain⟨q,hq⟩:∃q,(dg gk).length=q:=⟨_,rfl⟩;have h1w:=fun h=>dg_one_word (n:=gk) h;have hcl:=fun h:0<(dg gk).length=>hB.u h;have hz:(dg gk).length=0→gk=0:=fun h=>(dig_eq_nil B64_two).1 (List.length_eq_zero_iff.1 h);rw [hq] at hcb hcl h1w hz ⊢;rw [hp] at hca ⊢;have Hp:=ZZ hp;have Hq:=ZZ hq;have H1w:=ZZ h1w;have Hcl:=ZZ hcl;have Hz:=ZZ hz;clear hm sa sb hg hext hA hB hp hq h1w hcl hz
  rcases Nat.lt_or_ge 1 q with h1|h1
  ·have t1:decide ((1:Int)<(q:Int))=true:=by simp;omega
   have hpos:0<gk:=by
    rcases Nat.eq_zero_or_pos gk with h|h
    ·subst h
     have:=Hq.out
     rw [dg_zero] at this
     simp at this;omega
    ·exact h
   have hd:=div_c _ _ m' gk wr Ha'.out Hb'.out Sa'.out Sb'.out hpos;rw [Hp.out,Hq.out] at hd;have Hd:=ZZ hd;have Hpos:=ZZ hpos;clear hd hpos;go_wp2_with fail;refine Hd.out.mono ?_;rintro e w1 ⟨vq,vr,rfl,h2,h3,h4⟩;have H3:=ZZ h3;have H4:=ZZ h4;clear h2 h3 h4;go_wp2_with fail
   go_roundg (m' % gk)
   case measure=>exact Nat.mod_lt _ Hpos.out
   case rel=>
    refine⟨gk,?_,H3.out,Hpos.out,Sb'.out,sm_lt (Nat.le_of_lt (Nat.mod_lt _ Hpos.out)) Sb'.out,?_,al Hext.out H4.out⟩
    ·have:=Hb'.out.mono H4.out
     rw [Hq.out] at this;exact this
    ·rw [Nat.gcd_comm,←Nat.gcd_rec,Nat.gcd_comm];exact Hg'.out
  ·have t1:decide ((1:Int)<(q:Int))=false:=by simp;omega
   rcases Nat.eq_zero_or_pos q with h0|h0
   ·subst h0
    go_wp2_with fail;go_ret
    have h2:=Hg'.out;rw [Hz.out (by first|rfl|trivial),Nat.gcd_zero_right] at h2;refine⟨_,rfl,?_,Hext.out⟩
    have:=Ha'.out
    rw [Hp.out,h2] at this;exact this
   ·have hq1:q=1:=by omega
    subst hq1;obtain⟨bb,ob,rfl,hc⟩:=Hcl.out (by omega);obtain⟨e1,hlt⟩:=H1w.out rfl
    have hcell:wr.cell? ⟨bb,ob,none⟩=some (.int .u64 (gk:Int)):=by
     have:=hc 0 (by omega)
     rw [e1] at this;simpa using this
    have hpos:0<gk:=by
     rcases Nat.eq_zero_or_pos gk with h|h
     ·subst h
      have:=Hq.out
      rw [dg_zero] at this
      simp at this
     ·exact h
    have hd:=by1_c _ m' gk wr Ha'.out Sa'.out hpos hlt;rw [Hp.out] at hd;have Hd:=ZZ hd;have Hpos:=ZZ hpos;have Hlt:=ZZ hlt;clear hd hpos hlt e1 hc;go_wp2_with fail;refine Hd.out.mono ?_;rintro e w1 ⟨⟨vq,r,rfl,hr,-⟩,hx⟩;have hcell1:=ao hx hcell;have Hr:=ZZ hr;have Hx:=ZZ hx;clear hr hx;go_wp2_with fail
    go_loop [8,9] (fun x y=>∃a b:Nat,x=.int .u64 a∧y=.int .u64 b∧Nat.gcd b a=G∧a<b∧b<B64) (fun x _=>(intOf x).toNat)
    case atStart=>exact⟨r,gk,rfl,rfl,by rw [Hr.out,Nat.gcd_comm,←Nat.gcd_rec,Nat.gcd_comm];exact Hg'.out,by rw [Hr.out];exact Nat.mod_lt _ Hpos.out,Hlt.out⟩
    case round=>
     obtain⟨a,b,rfl,rfl,hg,hab,hbB⟩:=hrel;have Hgab:=ZZ hg;have Hab:=ZZ hab;have HbB:=ZZ hbB;clear hg
     rcases Nat.eq_zero_or_pos a with h|h
     ·subst h
      clear hab hbB;go_wp2_with fail;refine(word_c b HbB.out _).mono ?_;rintro e w2 ⟨v,rfl,h5,h6⟩;have H5:=ZZ h5;have H6:=ZZ h6;clear h5 h6;go_wp2_with fail;go_ret;have h2:=Hgab.out;rw [Nat.gcd_zero_right] at h2;refine⟨_,rfl,?_,al Hext.out (al Hx.out H6.out)⟩;rw [←h2];exact H5.out
     ·have t2:((a:Int) != 0)=true:=by simp;omega
      have t3:((a:Int) == 0)=false:=by simp;omega
      obtain⟨c,hc⟩:∃c,c=b % a:=⟨_,rfl⟩;have hca':c<a:=by rw [hc];exact Nat.mod_lt _ h
      have hw:(b:Int) % (a:Int)=(c:Int):=by rw [hc];simp
      have Hc:Hid (Nat.gcd a c=G):=by
       show _=_
       rw [hc,Nat.gcd_comm,←Nat.gcd_rec,Nat.gcd_comm];exact Hgab.out
      have Hca:=ZZ hca';clear hab hbB hc hca';go_wp2_with fail
      go_round
      case rel=>exact⟨c,a,by rw [hw],rfl,Hc.out,Hca.out,Nat.lt_trans Hab.out HbB.out⟩
      case measure=>
       show (intOf (Value.int _ ((b:Int) % (a:Int)))).toNat<_
       rw [hw];simp [intOf];exact Hca.out
def sg (b:Bool) (n:Nat):Int:=if b then -(n:Int) else n
def rat (b:Bool) (n d:Nat):Rat:=mkRat (sg b n) d
theorem sg_natAbs (b n):(sg b n).natAbs=n:=by unfold sg;split <;> simp
theorem rat_natAbs (b:Bool) (n d:Nat) (hd:d≠0):(rat b n d).num.natAbs=n / Nat.gcd n d:=by
 unfold rat;rw [Rat.num_mkRat,if_neg hd,sg_natAbs,Nat.gcd_comm];unfold sg
 split
 ·rw [Int.natAbs_ediv_of_dvd (by rw [Int.dvd_neg];exact Int.natCast_dvd_natCast.2 (Nat.gcd_dvd_left n d))]
  simp
 ·rw [Int.natAbs_ediv_of_dvd (Int.natCast_dvd_natCast.2 (Nat.gcd_dvd_left n d))];simp
theorem rat_den (b:Bool) (n d:Nat) (hd:d≠0):(rat b n d).den=d / Nat.gcd n d:=by
 unfold rat;rw [Rat.den_mkRat,if_neg hd,sg_natAbs,Nat.gcd_comm]
theorem rat_neg (b:Bool) (n d:Nat) (hd:d≠0) (hn:0<n):decide ((rat b n d).num<0)=b:=by
 have h1:(rat b n d).num<0↔b=true:=by
  have h:=Rat.num_mkRat (sg b n) d;unfold rat;rw [h,if_neg hd];have hg:0<Nat.gcd d (sg b n).natAbs:=Nat.gcd_pos_of_pos_left _ (by omega)
  cases b
  ·simp only [Bool.false_eq_true,iff_false,Int.not_lt]
   exact Int.ediv_nonneg (by unfold sg;simp) (by omega)
  ·simp only [iff_true]
   have hlt:sg true n<0:=by unfold sg;simp;omega
   exact Int.ediv_neg_of_neg_of_pos hlt (by exact_mod_cast hg)
 cases b
 ·simpa using h1
 ·simpa using h1
theorem rat_zero (b:Bool) (d:Nat):rat b 0 d=0:=by
 unfold rat sg
 cases b <;> simp
theorem rat_self (q:Rat):rat (decide (q.num<0)) q.num.natAbs q.den=q:=by
 unfold rat
 have:sg (decide (q.num<0)) q.num.natAbs=q.num:=by
  unfold sg
  split
  ·rename_i h
   simp only [decide_eq_true_eq] at h
   omega
  ·rename_i h
   simp only [decide_eq_true_eq] at h
   omega
 rw [this];exact Rat.mkRat_self q
def dn (q:Rat):Nat:=if q.den=1 then 0 else q.den
def Nm (w:World) (v:Value) (q:Rat):Prop:=∃vn vd,v=.agg #[.bool (decide (q.num<0)),vn,vd]∧Wd w vn q.num.natAbs∧Wd w vd (dn q)
theorem Nm.mono {w w':World} {v:Value} {q:Rat} (h:Nm w v q) (k:Ext w w'):Nm w' v q:=by
 obtain⟨vn,vd,e,h1,h2⟩:=h;exact⟨vn,vd,e,h1.mono k,h2.mono k⟩
theorem Nm.zero (w:World):Nm w (.agg #[.bool false,.slice none 0 0,.slice none 0 0]) 0:=⟨_,_,rfl,Wd.zero w,Wd.zero w⟩
theorem info_i64:(Tryz.prog.info? 2).map (fun i=>(i.zero,i.size,i.bytes))=some (some (.int .i64 0),1,8):=by kernel_rfl
theorem mk_digits (n:Nat) (z:Int) (hz:z=(n:Int)) (hn:n≤35184372088832) (w:World):(Instr.makeSlice 57 (.int .i64 z) (.int .i64 z)).run Tryz.prog w=.ok (.slice (some ⟨w.heap.size,0,none⟩) n n) (w.alloc (.cells ((zs n).map i64n).toArray 2)):=by
 subst hz;obtain⟨i,hi,h1,h2,h3⟩:=info_parts info_i64;have h:=run_make (P:=Tryz.prog) w 57 2 i (.int .i64 0) Tryz.underlying57 hi h1 .i64 .i64 (n:Int) (n:Int) (by omega) (Int.le_refl _) (by rw [h3];omega) (by omega);rw [h]
 have e:madeCells (Value.int .i64 0).cells (n*i.size)=((zs n).map i64n).toArray:=by
  rw [h2,Nat.mul_one]
  have:=toList_madeCells_one (.int .i64 0) n
  have h':(madeCells (Value.int .i64 0).cells n).toList=(zs n).map i64n:=by
   rw [show (Value.int .i64 0).cells=#[Value.int .i64 0] from rfl,this];simp [zs,i64n]
  rw [←h']
 simp only [Int.toNat_natCast,e]
def BkI (w:World) (g:Nat) (l:List Nat):Prop:=w.heap[g]?=some (.cells (l.map i64n).toArray 2 (0,0))
theorem BkI.lt {w:World} {g:Nat} {l:List Nat} (h:BkI w g l):g<w.heap.size:=lt_of_block h
theorem BkI.cell {w:World} {g:Nat} {l:List Nat} (h:BkI w g l) (i:Nat) (hi:i<l.length):w.cell? ⟨g,i,none⟩=some (.int .i64 ((l.getD i 0:Nat):Int)):=by
 rw [cell_of_row w g i _ _ _ h];simp [hi,i64n,List.getD_eq_getElem?_getD]
theorem BkI.frozen {w:World} {g:Nat} {l:List Nat} (h:BkI w g l) (i:Nat):w.frozen? ⟨g,i,none⟩=false:=frozen_of_row w g i _ _ h
theorem BkI.new (w:World) (l:List Nat):BkI (w.alloc (.cells (l.map i64n).toArray 2)) w.heap.size l:=heap_alloc_new w _
theorem BkI.set_ {w:World} {g:Nat} {l:List Nat} (h:BkI w g l) (i v:Nat):BkI (w.setCell ⟨g,i,none⟩ (.int .i64 (v:Int))) g (l.set i v):=by
 unfold BkI at h ⊢
 simp only [World.setCell,Array.getElem?_modify,h]
 simp [List.map_set,i64n]
theorem BkI.ext {w w':World} {g:Nat} {l:List Nat} (h:BkI w g l) (k:Ext w w'):BkI w' g l:=(k.block g h.lt).trans h
theorem BkI.cl {w:World} {g:Nat} {l:List Nat} (h:BkI w g l):Cl w (some ⟨g,0,none⟩) (l.map i64n):=
 cl_block h (fun j hj=>by simp [List.getD_eq_getElem?_getD] at hj ⊢;simp [hj])
theorem split30 (s:Nat):∃d c:Nat,d<B30∧d+B30*c=s∧d=s % 1073741824∧c=s / 1073741824:=
 ⟨s % B30,s / B30,Nat.mod_lt _ (by rw [B30_eq];omega),Nat.mod_add_div s B30,rfl,rfl⟩
def Fr (B:Nat) (v:Value):Prop:=∀b,v.ownBlock=some b→B≤b
theorem plus_lg (A B:Option Addr) (la lb:List Nat) (ca cb:Nat) (w:World) (n m:Nat) (hn:la.length=n) (hm:lb.length=m) (hA:Cl w A (la.map i64n)) (hB:Cl w B (lb.map i64n)) (hla:∀d ∈ la,d<B30) (hlb:∀d ∈ lb,d<B30) (x y:Value) (hxy:(x=.slice A n ca∧y=.slice B m cb∧m≤n)∨(x=.slice B m cb∧y=.slice A n ca∧m<n)) (hs:n≤2199023255552):Calls Tryz.prog 97 #[x,y] w fun e w'=>∃v,e=.returned v∧Wr w' v (num B30 la+num B30 lb)∧Ext w w'∧Fr w.heap.size v:=by
 have Hn:Hid (la.length=n):=hn;have Hm:Hid (lb.length=m):=hm;have Hla:=ZZ hla;have Hlb:=ZZ hlb;have hmk:=mk_digits (n+1) ((n:Int)+1) (by omega) (by omega);have hw0:IntKind.i64.wrap ((n:Int)+1)=(n:Int)+1:=IntWalk.i64_in _ (by omega)
 rcases hxy with ⟨rfl,rfl,hle⟩|⟨rfl,rfl,hle⟩
 all_goals
  have hc1:decide ((n:Int)<(m:Int))=false:=by simp;omega
  have hc2:decide (n<m)=false:=by simp;omega
  try have hd1:decide ((m:Int)<(n:Int))=true:=decide_eq_true (by omega)
  try have hd2:decide (m<n)=true:=decide_eq_true (by omega)
  have Hle:=ZZ hle;clear hn hm hla hlb
  go_enter Tryz.func97,Tryz.ntmps97
  go_wp2_with fail;clear hw0 hc1
  try clear hd1
  go_loopw [6,7] (fun c i wr=>∃(k cy:Nat) (r:List Nat),k≤n∧i=.int .i64 k∧c=.int .i64 cy∧cy≤1∧r.length=n+1∧(∀d ∈ r,d<B30)∧BkI wr w.heap.size r∧Below w.heap.size w wr∧num B30 (r.take k)+B30 ^ k*cy=num B30 (la.take k)+num B30 (lb.take k)) (fun _ i _=>n - (intOf i).toNat)
  case atStart=>exact⟨0,0,zs (n+1),Nat.zero_le _,rfl,rfl,by omega,zs_length _,zs_lt (by rw [B30_eq];omega) _,BkI.new _ _,ab _ _,by simp⟩
  case round=>
   clear hmk;obtain⟨k,cy,r,hk,rfl,rfl,hcy,hr,hrl,hbk,hbel,hnum⟩:=hrel;have Hr:Hid (r.length=n+1):=hr;have Hrl:=ZZ hrl;have Hbk:Hid (BkI wr w.heap.size r):=hbk;have Hnum:=ZZ hnum;clear hr hrl hnum hbk
   by_cases hlt:k<n
   ·have hci:=Hbk.out.cell k (by rw [Hr.out];omega)
    have hfi:=Hbk.out.frozen k;have hxl:=getD_lt Hla.out (by rw [B30_eq];omega) k;have Htx:=ZZ (num_take_le B30 la k);have Hty:=ZZ (num_take_le B30 lb k);rw [B30_eq] at hxl;obtain⟨ba,oa,rfl,hca'⟩:=hA.i (by rw [Hn.out];omega);have ea:=ao hbel (hca' k (by rw [Hn.out];omega));clear hca' hA;generalize hgx:la.getD k 0=x at *;clear hgx;obtain⟨s1,hs1⟩:∃s1:Nat,s1=cy+x:=⟨_,rfl⟩;have hw1:IntKind.i64.wrap ((cy:Int)+(x:Int))=(s1:Int):=(IntWalk.i64_in _ (by omega)).trans (by omega)
    by_cases hkm:k<m
    ·obtain⟨bb,ob,rfl,hcb'⟩:=hB.i (by rw [Hm.out];omega)
     have eb:=ao hbel (hcb' k (by rw [Hm.out];omega));have hyl:=getD_lt Hlb.out (by rw [B30_eq];omega) k;rw [B30_eq] at hyl;clear hcb' hB;generalize hgy:lb.getD k 0=y at *;clear hgy;obtain⟨s,hs2⟩:∃s:Nat,s=s1+y:=⟨_,rfl⟩;have hw2:IntKind.i64.wrap ((s1:Int)+(y:Int))=(s:Int):=(IntWalk.i64_in _ (by omega)).trans (by omega);obtain⟨d,c',hd,hdc,hd1,hc1'⟩:=split30 s;have hrem:(s:Int) % 1073741824=(d:Int):=by omega
     have hquo:(s:Int) / 1073741824=(c':Int):=by omega
     have hsb:s≤4294967296:=by omega
     have hcb:c'≤4294967296:=by omega
     have hwq:IntKind.i64.wrap (c':Int)=(c':Int):=IntWalk.i64_in _ (by rw [hc1'];omega);have hwd:IntKind.i64.wrap (d:Int)=(d:Int):=IntWalk.i64_in _ (by rw [hd1];omega);have hwk:IntKind.i64.wrap ((k:Int)+1)=((k+1:Nat):Int):=(IntWalk.i64_in _ (by omega)).trans (by omega);have Hc':=ZZ (show c'≤1 by rw [hc1'];omega);have Hst:=ZZ (add_step (s:=d) (c':=c') (B:=B30) Hnum.out (x:=x) (y:=y) (c:=cy) (by rw [hdc];omega));have Hd:=ZZ hd;have Hset:=ZZ (Hbk.out.set_ k d)
     have Hrel:=ZZ (show num B30 ((r.set k d).take (k+1))+B30 ^ (k+1)*c'=num B30 (la.take (k+1))+num B30 (lb.take (k+1)) by
      rw [num_set_take _ _ _ _ (by rw [Hr.out];omega),Htx.out,Hty.out,Nat.pow_succ];exact Hst.out)
     clear hd1 hc1' hdc hd Hst hs2 hs1;go_wp2_with fail
     go_roundw
     case rel=>exact⟨k+1,c',r.set k d,by omega,by first|rfl|go_num,rfl,Hc'.out,by rw [List.length_set,Hr.out],set_lt Hrl.out Hd.out k,Hset.out,hbel.setCell (Nat.le_refl _) _,Hrel.out⟩
     case measure=>simp [intOf];omega
    ·have ey:lb.getD k 0=0:=by rw [List.getD_eq_getElem?_getD,List.getElem?_eq_none (by rw [Hm.out];omega)];rfl
     rw [ey] at Hty;clear ey;obtain⟨s,hs2⟩:∃s:Nat,s=s1:=⟨_,rfl⟩;obtain⟨d,c',hd,hdc,hd1,hc1'⟩:=split30 s;have hrem:(s1:Int) % 1073741824=(d:Int):=by omega
     have hquo:(s1:Int) / 1073741824=(c':Int):=by omega
     have hsb:s1≤4294967296:=by omega
     have hcb:c'≤4294967296:=by omega
     have hwq:IntKind.i64.wrap (c':Int)=(c':Int):=IntWalk.i64_in _ (by rw [hc1'];omega);have hwd:IntKind.i64.wrap (d:Int)=(d:Int):=IntWalk.i64_in _ (by rw [hd1];omega);have hwk:IntKind.i64.wrap ((k:Int)+1)=((k+1:Nat):Int):=(IntWalk.i64_in _ (by omega)).trans (by omega);have Hc':=ZZ (show c'≤1 by rw [hc1'];omega);have Hst:=ZZ (add_step (s:=d) (c':=c') (B:=B30) Hnum.out (x:=x) (y:=0) (c:=cy) (by rw [hdc];omega));have Hd:=ZZ hd;have Hset:=ZZ (Hbk.out.set_ k d)
     have Hrel:=ZZ (show num B30 ((r.set k d).take (k+1))+B30 ^ (k+1)*c'=num B30 (la.take (k+1))+num B30 (lb.take (k+1)) by
      rw [num_set_take _ _ _ _ (by rw [Hr.out];omega),Htx.out,Hty.out,Nat.pow_succ];exact Hst.out)
     clear hd1 hc1' hdc hd Hst hs2 hs1;go_wp2_with fail
     go_roundw
     case rel=>exact⟨k+1,c',r.set k d,by omega,by first|rfl|go_num,rfl,Hc'.out,by rw [List.length_set,Hr.out],set_lt Hrl.out Hd.out k,Hset.out,hbel.setCell (Nat.le_refl _) _,Hrel.out⟩
     case measure=>simp [intOf];omega
   ·have hkn:k=n:=by omega
    subst hkn;have hci:=Hbk.out.cell k (by rw [Hr.out];omega);have hfi:=Hbk.out.frozen k;have Hset:=ZZ (Hbk.out.set_ k cy);have Hcy:Hid (cy<B30):=by show _<_;rw [B30_eq];omega
    have HC:=ZZ Hset.out.cl;go_wp2_with fail;refine(rcut_c _ (r.set k cy) _ _ HC.out (k+1) (by rw [List.length_set,Hr.out]) (by omega) (by omega)).mono ?_;rintro e w2 ⟨rfl,rfl⟩;go_wp2_with fail;go_ret;refine⟨_,rfl,?_,hbel.setCell (Nat.le_refl _) _,(fun b hb=>by cases hb;exact Nat.le_refl _)⟩;have h1:=Hnum.out;rw [num_take_all B30 la (by rw [Hn.out];omega),num_take_all B30 lb (by rw [Hm.out];have:=Hle.out;omega)] at h1;have h2:=rcut_w (set_lt Hrl.out Hcy.out k) HC.out (c:=k+1) (by rw [List.length_set,Hr.out];omega);rw [←h1,←num_set_take B30 r k cy (by rw [Hr.out];omega),num_take_all _ _ (by rw [List.length_set,Hr.out];omega)];exact h2
theorem plus_f (va vb:Value) (m n:Nat) (w:World) (ha:Wr w va m) (hb:Wr w vb n) (sa:Sr m) (sb:Sr n):Calls Tryz.prog 97 #[va,vb] w fun e w'=>∃v,e=.returned v∧Wr w' v (m+n)∧Ext w w'∧Fr w.heap.size v:=by
 obtain⟨A,ca,rfl,hca,hA⟩:=ha;obtain⟨B,cb,rfl,hcb,hB⟩:=hb;unfold Sr at sa sb
 by_cases h:(dr n).length≤(dr m).length
 ·have h:=plus_lg A B (dr m) (dr n) ca cb w _ _ rfl rfl hA hB (dr_lt m) (dr_lt n) _ _ (.inl ⟨rfl,rfl,h⟩) (by omega)
  rwa [num_dr,num_dr] at h
 ·have h:=plus_lg B A (dr n) (dr m) cb ca w _ _ rfl rfl hB hA (dr_lt n) (dr_lt m) _ _ (.inr ⟨rfl,rfl,by omega⟩) (by omega)
  rw [num_dr,num_dr,Nat.add_comm] at h;exact h
theorem BkI.drewN {w:World} {g:Nat} {l:List Nat} (h:BkI w g l) (q:Nat):BkI (w.drewN q) g l:=h
theorem small_r (n:Nat) (hn:n<1152921504606846976) (w:World):Calls Tryz.prog 99 #[.int .i64 n] w fun e w'=>∃v,e=.returned v∧Wr w' v n∧Ext w w':=by
 obtain⟨d,c,hd,hdc,hd1,hc1⟩:=split30 n;rw [B30_eq] at hd;have hrem:(n:Int) % 1073741824=(d:Int):=by omega
 have hquo:(n:Int) / 1073741824=(c:Int):=by omega
 have hcb:c<1073741824:=by omega
 have hc:Cl (w.alloc (.cells #[.int .i64 (d:Int),.int .i64 (c:Int)] 2)) (some ⟨w.heap.size,0,none⟩) ([d,c].map i64n):=cl_new w [i64n d,i64n c] 2;have hw:=rcut_w (l:=[d,c]) (by intro x hx;simp at hx;rw [B30_eq];omega) hc (Nat.le_refl 2);have H:=ZZ hc;have H2:=ZZ hw;have H3:=ZZ hdc;clear hc hw hd1 hc1 hdc
 go_enter Tryz.func99,Tryz.ntmps99
 go_wp2_with fail;refine(rcut_c _ [d,c] _ _ H.out 2 rfl (by omega) (by omega)).mono ?_
 rintro e w' ⟨rfl,rfl⟩;go_wp2_with fail;go_ret;refine⟨_,rfl,?_,ab _ _⟩
 have:=H2.out
 rw [show num B30 [d,c]=n by simp;exact H3.out] at this;exact this
theorem minus_l (A B:Option Addr) (la lb:List Nat) (ca cb:Nat) (w:World) (n m:Nat) (hn:la.length=n) (hm:lb.length=m) (hA:Cl w A (la.map i64n)) (hB:Cl w B (lb.map i64n)) (hla:∀d ∈ la,d<B30) (hlb:∀d ∈ lb,d<B30) (hle:m≤n) (hnm:num B30 lb≤num B30 la) (hs:n≤2199023255552):Calls Tryz.prog 104 #[.slice A n ca,.slice B m cb] w fun e w'=>∃v,e=.returned v∧Wr w' v (num B30 la - num B30 lb)∧Ext w w'∧Fr w.heap.size v:=by
 have Hn:Hid (la.length=n):=hn;have Hm:Hid (lb.length=m):=hm;have Hla:=ZZ hla;have Hlb:=ZZ hlb;have hmk:=mk_digits n (n:Int) rfl (by omega);have Hle:=ZZ hle;have Hnm:=ZZ hnm;clear hn hm hla hlb hnm
 go_enter Tryz.func104,Tryz.ntmps104
 go_wp2_with fail
 go_loopw [6,7] (fun c i wr=>∃(k ls:Nat) (r:List Nat),k≤n∧i=.int .i64 k∧c=.int .i64 ls∧ls≤1∧r.length=n∧(∀d ∈ r,d<B30)∧BkI wr w.heap.size r∧Below w.heap.size w wr∧num B30 (r.take k)+num B30 (lb.take k)=num B30 (la.take k)+B30 ^ k*ls) (fun _ i _=>n - (intOf i).toNat)
 case atStart=>exact⟨0,0,zs n,Nat.zero_le _,rfl,rfl,by omega,zs_length _,zs_lt (by rw [B30_eq];omega) _,BkI.new _ _,ab _ _,by simp⟩
 case round=>
  clear hmk;obtain⟨k,ls,r,hk,rfl,rfl,hls,hr,hrl,hbk,hbel,hnum⟩:=hrel;have Hr:Hid (r.length=n):=hr;have Hrl:=ZZ hrl;have Hbk:Hid (BkI wr w.heap.size r):=hbk;have Hnum:=ZZ hnum;clear hr hrl hnum hbk
  by_cases hlt:k<n
  ·have hci:=Hbk.out.cell k (by rw [Hr.out];omega)
   have hfi:=Hbk.out.frozen k;have hxl:=getD_lt Hla.out (by rw [B30_eq];omega) k;have Htx:=ZZ (num_take_le B30 la k);have Hty:=ZZ (num_take_le B30 lb k);rw [B30_eq] at hxl;obtain⟨ba,oa,rfl,hca'⟩:=hA.i (by rw [Hn.out];omega);have ea:=ao hbel (hca' k (by rw [Hn.out];omega));clear hca' hA;generalize hgx:la.getD k 0=x at *;clear hgx;have hwk:IntKind.i64.wrap ((k:Int)+1)=((k+1:Nat):Int):=(IntWalk.i64_in _ (by omega)).trans (by omega);obtain⟨D1,hD1⟩:∃D1:Int,D1=(x:Int) - (ls:Int):=⟨_,rfl⟩;have hw1:IntKind.i64.wrap ((x:Int) - (ls:Int))=D1:=(IntWalk.i64_in _ (by omega)).trans (by omega)
   by_cases hkm:k<m
   ·obtain⟨bb,ob,rfl,hcb'⟩:=hB.i (by rw [Hm.out];omega)
    have eb:=ao hbel (hcb' k (by rw [Hm.out];omega));have hyl:=getD_lt Hlb.out (by rw [B30_eq];omega) k;rw [B30_eq] at hyl;clear hcb' hB;generalize hgy:lb.getD k 0=y at *;clear hgy;obtain⟨D2,hD2⟩:∃D2:Int,D2=D1 - (y:Int):=⟨_,rfl⟩;have hw2:IntKind.i64.wrap (D1 - (y:Int))=D2:=(IntWalk.i64_in _ (by omega)).trans (by omega)
    by_cases hng:D2<0
    ·have hneg:decide (D2<0)=true:=decide_eq_true hng
     obtain⟨s,hs⟩:∃s:Nat,(s:Int)=D2+1073741824:=⟨(D2+1073741824).toNat,by omega⟩;have hw3:IntKind.i64.wrap (D2+1073741824)=(s:Int):=(IntWalk.i64_in _ (by omega)).trans (by omega);have Hd:=ZZ (show s<B30 by rw [B30_eq];omega);have Hst:=ZZ (sub_step (s:=s) (c':=1) (B:=B30) Hnum.out (x:=x) (y:=y) (c:=ls) (by rw [B30_eq];omega));have Hset:=ZZ (Hbk.out.set_ k s)
     have Hrel:=ZZ (show num B30 ((r.set k s).take (k+1))+num B30 (lb.take (k+1))=num B30 (la.take (k+1))+B30 ^ (k+1)*1 by
      rw [num_set_take _ _ _ _ (by rw [Hr.out];omega),Htx.out,Hty.out,Nat.pow_succ];exact Hst.out)
     clear hng Hst hs hD1 hD2;go_wp2_with fail
     go_roundw
     case rel=>exact⟨k+1,1,r.set k s,by omega,by first|rfl|go_num,rfl,by omega,by rw [List.length_set,Hr.out],set_lt Hrl.out Hd.out k,Hset.out,hbel.setCell (Nat.le_refl _) _,Hrel.out⟩
     case measure=>simp [intOf];omega
    ·obtain⟨s,hs⟩:∃s:Nat,(s:Int)=D2:=⟨(D2).toNat,by omega⟩
     have hneg:decide ((s:Int)<0)=false:=decide_eq_false (by omega);have Hd:=ZZ (show s<B30 by rw [B30_eq];omega);have Hst:=ZZ (sub_step (s:=s) (c':=0) (B:=B30) Hnum.out (x:=x) (y:=y) (c:=ls) (by rw [B30_eq];omega));have Hset:=ZZ (Hbk.out.set_ k s)
     have Hrel:=ZZ (show num B30 ((r.set k s).take (k+1))+num B30 (lb.take (k+1))=num B30 (la.take (k+1))+B30 ^ (k+1)*0 by
      rw [num_set_take _ _ _ _ (by rw [Hr.out];omega),Htx.out,Hty.out,Nat.pow_succ];exact Hst.out)
     clear hng Hst  hD1 hD2;subst hs;go_wp2_with fail
     go_roundw
     case rel=>exact⟨k+1,0,r.set k s,by omega,by first|rfl|go_num,rfl,by omega,by rw [List.length_set,Hr.out],set_lt Hrl.out Hd.out k,Hset.out,hbel.setCell (Nat.le_refl _) _,Hrel.out⟩
     case measure=>simp [intOf];omega
   ·have ey:lb.getD k 0=0:=by rw [List.getD_eq_getElem?_getD,List.getElem?_eq_none (by rw [Hm.out];omega)];rfl
    rw [ey] at Hty;clear ey
    by_cases hng:D1<0
    ·have hneg:decide (D1<0)=true:=decide_eq_true hng
     obtain⟨s,hs⟩:∃s:Nat,(s:Int)=D1+1073741824:=⟨(D1+1073741824).toNat,by omega⟩;have hw3:IntKind.i64.wrap (D1+1073741824)=(s:Int):=(IntWalk.i64_in _ (by omega)).trans (by omega);have Hd:=ZZ (show s<B30 by rw [B30_eq];omega);have Hst:=ZZ (sub_step (s:=s) (c':=1) (B:=B30) Hnum.out (x:=x) (y:=0) (c:=ls) (by rw [B30_eq];omega));have Hset:=ZZ (Hbk.out.set_ k s)
     have Hrel:=ZZ (show num B30 ((r.set k s).take (k+1))+num B30 (lb.take (k+1))=num B30 (la.take (k+1))+B30 ^ (k+1)*1 by
      rw [num_set_take _ _ _ _ (by rw [Hr.out];omega),Htx.out,Hty.out,Nat.pow_succ];exact Hst.out)
     clear hng Hst hs hD1;go_wp2_with fail
     go_roundw
     case rel=>exact⟨k+1,1,r.set k s,by omega,by first|rfl|go_num,rfl,by omega,by rw [List.length_set,Hr.out],set_lt Hrl.out Hd.out k,Hset.out,hbel.setCell (Nat.le_refl _) _,Hrel.out⟩
     case measure=>simp [intOf];omega
    ·obtain⟨s,hs⟩:∃s:Nat,(s:Int)=D1:=⟨(D1).toNat,by omega⟩
     have hneg:decide ((s:Int)<0)=false:=decide_eq_false (by omega);have Hd:=ZZ (show s<B30 by rw [B30_eq];omega);have Hst:=ZZ (sub_step (s:=s) (c':=0) (B:=B30) Hnum.out (x:=x) (y:=0) (c:=ls) (by rw [B30_eq];omega));have Hset:=ZZ (Hbk.out.set_ k s)
     have Hrel:=ZZ (show num B30 ((r.set k s).take (k+1))+num B30 (lb.take (k+1))=num B30 (la.take (k+1))+B30 ^ (k+1)*0 by
      rw [num_set_take _ _ _ _ (by rw [Hr.out];omega),Htx.out,Hty.out,Nat.pow_succ];exact Hst.out)
     clear hng Hst  hD1;subst hs;go_wp2_with fail
     go_roundw
     case rel=>exact⟨k+1,0,r.set k s,by omega,by first|rfl|go_num,rfl,by omega,by rw [List.length_set,Hr.out],set_lt Hrl.out Hd.out k,Hset.out,hbel.setCell (Nat.le_refl _) _,Hrel.out⟩
     case measure=>simp [intOf];omega
  ·have hkn:k=n:=by omega
   subst hkn;have HC:=ZZ Hbk.out.cl;go_wp2_with fail;refine(rcut_c _ r _ _ HC.out k Hr.out (by omega) (by omega)).mono ?_;rintro e w2 ⟨rfl,rfl⟩;go_wp2_with fail;go_ret;refine⟨_,rfl,?_,hbel,fun b hb=>by cases hb;exact Nat.le_refl _⟩;have h1:=Hnum.out;rw [num_take_all B30 la (by rw [Hn.out];omega),num_take_all B30 lb (by rw [Hm.out];have:=Hle.out;omega),num_take_all B30 r (by rw [Hr.out];omega)] at h1;have h3:=num_lt B30 r Hrl.out;rw [Hr.out] at h3;have h4:=Hnm.out
   have h5:ls=0:=by
    rcases(show ls=0∨ls=1 by omega) with h|h
    ·exact h
    ·subst h;rw [Nat.mul_one] at h1;omega
   subst h5;have h2:=rcut_w Hrl.out HC.out (c:=k) (by rw [Hr.out];omega);rw [show num B30 la - num B30 lb=num B30 r by rw [Nat.mul_zero] at h1;omega];exact h2
theorem minus_f (va vb:Value) (m n:Nat) (w:World) (ha:Wr w va m) (hb:Wr w vb n) (sa:Sr m) (hle:n≤m):Calls Tryz.prog 104 #[va,vb] w fun e w'=>∃v,e=.returned v∧Wr w' v (m - n)∧Ext w w'∧Fr w.heap.size v:=by
 obtain⟨A,ca,rfl,hca,hA⟩:=ha;obtain⟨B,cb,rfl,hcb,hB⟩:=hb;unfold Sr at sa
 have hl:(dr n).length≤(dr m).length:=by
  rcases Nat.lt_or_ge (dr m).length (dr n).length with h|h
  ·have:=num_lt_of_length B30_two (dr_lt m) (dr_norm n) h
   rw [num_dr,num_dr] at this;omega
  ·exact h
 have h:=minus_l A B (dr m) (dr n) ca cb w _ _ rfl rfl hA hB (dr_lt m) (dr_lt n) hl (by rw [num_dr,num_dr];exact hle) (by omega)
 rwa [num_dr,num_dr] at h
theorem minus_r (va vb:Value) (m n:Nat) (w:World) (ha:Wr w va m) (hb:Wr w vb n) (sa:Sr m) (hle:n≤m):Calls Tryz.prog 104 #[va,vb] w fun e w'=>∃v,e=.returned v∧Wr w' v (m - n)∧Ext w w':=
 (minus_f va vb m n w ha hb sa hle).mono fun e w' ⟨v,h1,h2,h3,_⟩=>⟨v,h1,h2,h3⟩
theorem times_bound {x y o cy s d c:Nat} (hx:x<1073741824) (hy:y<1073741824) (ho:o<1073741824) (hc:cy<1073741824) (hs:s=cy+x*y+o) (hd:d+B30*c=s):c<1073741824∧s<1152921504606846976:=by
 have h1:x*y≤1073741823*1073741823:=Nat.mul_le_mul (by omega) (by omega);rw [B30_eq] at hd;omega
theorem times_l (A B:Option Addr) (la lb:List Nat) (ca cb:Nat) (w:World) (n m:Nat) (hn:la.length=n) (hm:lb.length=m) (hA:Cl w A (la.map i64n)) (hB:Cl w B (lb.map i64n)) (hla:∀d ∈ la,d<B30) (hlb:∀d ∈ lb,d<B30) (hs:n+m≤2199023255552):Calls Tryz.prog 98 #[.slice A n ca,.slice B m cb] w fun e w'=>∃v,e=.returned v∧Wr w' v (num B30 la*num B30 lb)∧Ext w w'∧Fr w.heap.size v:=by
 have Hn:Hid (la.length=n):=hn;have Hm:Hid (lb.length=m):=hm;have Hla:=ZZ hla;have Hlb:=ZZ hlb;have hmk:=mk_digits (n+m) ((n:Int)+(m:Int)) (by omega) (by omega);clear hn hm hla hlb
 go_enter Tryz.func98,Tryz.ntmps98
 go_wp2_with fail
 go_loopw [6] (fun i wr=>∃(k:Nat) (r:List Nat),k≤n∧i=.int .i64 k∧r.length=n+m∧(∀d ∈ r,d<B30)∧BkI wr w.heap.size r∧Below w.heap.size w wr∧num B30 r=num B30 (la.take k)*num B30 lb∧∀j,k+m≤j→r.getD j 0=0) (fun i _=>n - (intOf i).toNat)
 case atStart=>exact⟨0,zs (n+m),Nat.zero_le _,rfl,zs_length _,zs_lt (by rw [B30_eq];omega) _,BkI.new _ _,ab _ _,by simp [zs,num_replicate_zero],fun j _=>by
   simp [zs,List.getD_eq_getElem?_getD,List.getElem?_replicate];split <;> rfl⟩
 case round=>
  clear hmk;obtain⟨k,r,hk,rfl,hr,hrl,hbk,hbel,hnum,hz⟩:=hrel;obtain⟨wo,rfl⟩:∃wo:World,wo=wr:=⟨_,rfl⟩;have Hr:Hid (r.length=n+m):=hr;have Hrl:=ZZ hrl;have Hbk:Hid (BkI wo w.heap.size r):=hbk;have Hnum:=ZZ hnum;have Hz:=ZZ hz;clear hr hrl hnum hbk hz
  by_cases hlt:k<n
  ·obtain⟨ba,oa,rfl,hca'⟩:=hA.i (by rw [Hn.out];omega)
   have HEA:=ZZ (hca' k (by rw [Hn.out];omega));have hxl:=getD_lt Hla.out (by rw [B30_eq];omega) k;have Htk:Hid (num B30 (la.take (k+1))=num B30 (la.take k)+B30 ^ k*la.getD k 0):=num_take_le _ _ _;clear hca' hA;rw [B30_eq] at hxl;generalize la.getD k 0=x at *;go_wp2_with fail
   go_loopw [7,8] (fun c j wr=>∃(t cy:Nat) (r:List Nat),t≤m∧j=.int .i64 t∧c=.int .i64 cy∧cy<B30∧r.length=n+m∧(∀d ∈ r,d<B30)∧BkI wr w.heap.size r∧Below w.heap.size w wr∧num B30 r+B30 ^ k*B30 ^ t*cy=num B30 (la.take k)*num B30 lb+B30 ^ k*x*num B30 (lb.take t)∧∀j,k+m≤j→r.getD j 0=0) (fun _ j _=>m - (intOf j).toNat)
   case atStart=>exact⟨0,0,r,Nat.zero_le _,rfl,rfl,by rw [B30_eq];omega,Hr.out,Hrl.out,Hbk.out,hbel,by rw [Hnum.out];simp,Hz.out⟩
   case round=>
    clear Hr Hrl Hbk Hnum Hz hbel;obtain⟨t,cy,r,ht,rfl,rfl,hcy,hr,hrl,hbk,hbel,hnum,hz⟩:=hrel;have Hr:Hid (r.length=n+m):=hr;have Hrl:=ZZ hrl;have Hbk:Hid (BkI wr w.heap.size r):=hbk;have Hnum:=ZZ hnum;have Hz:=ZZ hz;clear hr hrl hnum hbk hz;rw [B30_eq] at hcy
    by_cases hltm:t<m
    ·obtain⟨bb,ob,rfl,hcb'⟩:=hB.i (by rw [Hm.out];omega)
     have ea:=ao hbel HEA.out;have eb:=ao hbel (hcb' t (by rw [Hm.out];omega));have hyl:=getD_lt Hlb.out (by rw [B30_eq];omega) t;have Htt:Hid (num B30 (lb.take (t+1))=num B30 (lb.take t)+B30 ^ t*lb.getD t 0):=num_take_le _ _ _;clear hcb' hB;rw [B30_eq] at hyl;generalize lb.getD t 0=y at *;have hci:=Hbk.out.cell (k+t) (by rw [Hr.out];omega);have hfi:=Hbk.out.frozen (k+t);have hol:=getD_lt Hrl.out (by rw [B30_eq];omega) (k+t);have hns:=fun s=>num_set B30 r (k+t) s (by rw [Hr.out];omega);have Hns:=ZZ hns;clear hns;rw [B30_eq] at hol;generalize r.getD (k+t) 0=o at *;obtain⟨p,hp⟩:∃p:Nat,p=x*y:=⟨_,rfl⟩;obtain⟨s1,hs1⟩:∃s1:Nat,s1=cy+p:=⟨_,rfl⟩;obtain⟨s,hs2⟩:∃s:Nat,s=s1+o:=⟨_,rfl⟩;obtain⟨d,c',hd,hdc,hd1,hc1'⟩:=split30 s;obtain⟨hcb,hsb⟩:=times_bound hxl hyl hol hcy (by rw [hs2,hs1,hp]) hdc
     have hw1:IntKind.i64.wrap ((x:Int)*(y:Int))=(p:Int):=by
      rw [show (x:Int)*(y:Int)=(p:Int) by rw [hp];push_cast;rfl];exact IntWalk.i64_in _ (by omega)
     have hw2:IntKind.i64.wrap ((cy:Int)+(p:Int))=(s1:Int):=(IntWalk.i64_in _ (by omega)).trans (by omega);have hw3:IntKind.i64.wrap ((s1:Int)+(o:Int))=(s:Int):=(IntWalk.i64_in _ (by omega)).trans (by omega);have hrem:(s:Int) % 1073741824=(d:Int):=by omega
     have hquo:(s:Int) / 1073741824=(c':Int):=by omega
     have hdb:d<1073741824:=by omega
     have hw4:IntKind.i64.wrap ((k:Int)+(t:Int))=((k+t:Nat):Int):=(IntWalk.i64_in _ (by omega)).trans (by omega);have Hd:=ZZ hd;have Hc':=ZZ (show c'<B30 by rw [B30_eq];exact hcb);have Hstep:=ZZ (show d+B30*c'=x*y+o+cy by omega);have HB:=ZZ hbel;have Hset:=ZZ (fun q:Nat=>(Hbk.out.drewN q).set_ (k+t) d);clear hd1 hc1' hdc hd hs2 hs1 hp hbel;go_wp2_with fail
     go_quiet (fail)
     go_wp2_with fail
     go_roundw
     case rel=>
      refine⟨t+1,c',r.set (k+t) d,by omega,by first|rfl|go_num,rfl,Hc'.out,by rw [List.length_set,Hr.out],set_lt Hrl.out Hd.out _,Hset.out _,(al HB.out (av _ _)).setCell (Nat.le_refl _) _,?_,fun j hj=>by rw [getD_set_ne (by omega)];exact Hz.out j hj⟩;have h5:=Hns.out d;rw [Nat.pow_add] at h5;rw [Htt.out,Nat.pow_succ,←Nat.mul_assoc];exact mul_step Hnum.out Hstep.out h5
     case measure=>simp [intOf];omega
    ·have htm:t=m:=by omega
     subst htm;have hci:=Hbk.out.cell (k+t) (by rw [Hr.out];omega);have hfi:=Hbk.out.frozen (k+t);have Hset:=ZZ (Hbk.out.set_ (k+t) cy);have Hcy:=ZZ (show cy<B30 by rw [B30_eq];exact hcy);clear hcy;go_wp2_with fail
     go_roundw
     case rel=>
      refine⟨k+1,r.set (k+t) cy,by omega,by first|rfl|go_num,by rw [List.length_set,Hr.out],set_lt Hrl.out Hcy.out _,Hset.out,hbel.setCell (Nat.le_refl _) _,?_,fun j hj=>by rw [getD_set_ne (by omega)];exact Hz.out j (by omega)⟩;have h5:=num_set B30 r (k+t) cy (by rw [Hr.out];omega);rw [Hz.out (k+t) (Nat.le_refl _),Nat.mul_zero,Nat.add_zero,Nat.pow_add] at h5;rw [h5,Hnum.out,num_take_all B30 lb (by rw [Hm.out];omega),Htk.out,Nat.add_mul]
     case measure=>simp [intOf];omega
  ·have hkn:k=n:=by omega
   subst hkn;have Hc:=Hbk.out.cl;have HC:=ZZ Hc;clear Hc;go_wp2_with fail;refine(rcut_c _ r _ _ HC.out (k+m) Hr.out (by omega) (by omega)).mono ?_;rintro e w2 ⟨rfl,rfl⟩;go_wp2_with fail;go_ret;refine⟨_,rfl,?_,hbel,fun b hb=>Nat.le_of_eq (Option.some.inj hb)⟩
   have:=rcut_w Hrl.out HC.out (c:=k+m) (by rw [Hr.out];omega)
   rw [Hnum.out,num_take_all B30 la (by rw [Hn.out];omega)] at this;exact this
theorem times_f (va vb:Value) (m n:Nat) (w:World) (ha:Wr w va m) (hb:Wr w vb n) (sa:Sr m) (sb:Sr n):Calls Tryz.prog 98 #[va,vb] w fun e w'=>∃v,e=.returned v∧Wr w' v (m*n)∧Ext w w'∧Fr w.heap.size v:=by
 obtain⟨A,ca,rfl,hca,hA⟩:=ha;obtain⟨B,cb,rfl,hcb,hB⟩:=hb;have h:=times_l A B (dr m) (dr n) ca cb w _ _ rfl rfl hA hB (dr_lt m) (dr_lt n) (by unfold Sr at sa sb;omega)
 rwa [num_dr,num_dr] at h
theorem times_r (va vb:Value) (m n:Nat) (w:World) (ha:Wr w va m) (hb:Wr w vb n) (sa:Sr m) (sb:Sr n):Calls Tryz.prog 98 #[va,vb] w fun e w'=>∃v,e=.returned v∧Wr w' v (m*n)∧Ext w w':=
 (times_f va vb m n w ha hb sa sb).mono fun e w' ⟨v,h1,h2,h3,_⟩=>⟨v,h1,h2,h3⟩
end Go.Proofs.YtkoaakefgacokaaGreatDoor
