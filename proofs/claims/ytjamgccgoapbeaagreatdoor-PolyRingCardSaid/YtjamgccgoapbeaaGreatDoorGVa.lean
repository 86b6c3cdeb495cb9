/- Spans: their cells; in order. The reference's natural numbers: the number of a row of digits. Products of polynomials, plain: what out holds after i rounds and j of the next. A range over a function whose rounds never leave: what is handed to a round holds in its world; what the iterator says in the end speaks of the last world. -/
import Derived.Test.YtjamgccgoapbeaaGreatDoorGNg
import Derived.Test.YtjamgccgoapbeaaGreatDoorGQc
import Derived.Test.YtjamgccgoapbeaaGreatDoorGVx
import Derived.Test.YtjamgccgoapbeaaGreatDoorGRh
import Derived.RangeFuncNested
import Derived.RangeFuncBound
import Derived.RangeFuncLeaves
set_option linter.unusedVariables false
set_option maxRecDepth 100000
set_option maxHeartbeats 64000000
namespace Go.Proofs.YtjamgccgoapbeaaGreatDoor
open Go.RowKit
def Sp (w:World) (v:Value) (lo hi:Rat):Prop:=∃x0 x1 x2 y0 y1 y2,v=.agg #[x0,x1,x2,y0,y1,y2]∧Nm w (.agg #[x0,x1,x2]) lo∧Nm w (.agg #[y0,y1,y2]) hi
theorem Sp.mono {w w':World} {v:Value} {lo hi:Rat} (h:Sp w v lo hi) (k:Ext w w'):Sp w' v lo hi:=by
 obtain⟨x0,x1,x2,y0,y1,y2,e,h1,h2⟩:=h;exact⟨x0,x1,x2,y0,y1,y2,e,h1.mono k,h2.mono k⟩
theorem Sp.form {w:World} {v:Value} {lo hi:Rat} (h:Sp w v lo hi):∃b1 A k ca B l cb b2 C m cc D n cd,v=.agg #[.bool b1,.slice A k ca,.slice B l cb,.bool b2,.slice C m cc,.slice D n cd]∧Nm w (.agg #[.bool b1,.slice A k ca,.slice B l cb]) lo∧Nm w (.agg #[.bool b2,.slice C m cc,.slice D n cd]) hi:=by
 obtain⟨x0,x1,x2,y0,y1,y2,rfl,h1,h2⟩:=h;obtain⟨b1,A,k,ca,B,l,cb,e1⟩:=h1.form2;obtain⟨b2,C,m,cc,D,n,cd,e2⟩:=h2.form2
 simp only [Value.agg.injEq,Array.mk.injEq,List.cons.injEq,and_true] at e1 e2
 obtain⟨rfl,rfl,rfl⟩:=e1;obtain⟨rfl,rfl,rfl⟩:=e2;exact⟨b1,A,k,ca,B,l,cb,b2,C,m,cc,D,n,cd,rfl,h1,h2⟩
theorem row6 {w W:World} {a b c d e f:Value} (h:Ext (w.alloc (.cells #[a,b,c,d,e,f] 37)) W):W.heap[w.heap.size]?=some (.cells #[a,b,c,d,e,f] 37 (0,0)):=
 (h.block _ (by simp)).trans (heap_alloc_new w _)
theorem ai {W:World} {g:Nat} {a b c d e f:Value} {T:TypeId} (h:W.heap[g]?=some (.cells #[a,b,c,d,e,f] T (0,0))):W.cell? ⟨g,0,none⟩=some a∧W.cell? ⟨g,1,none⟩=some b∧W.cell? ⟨g,2,none⟩=some c∧W.cell? ⟨g,3,none⟩=some d∧W.cell? ⟨g,4,none⟩=some e∧W.cell? ⟨g,5,none⟩=some f∧W.frozen? ⟨g,0,none⟩=false∧W.frozen? ⟨g,1,none⟩=false∧W.frozen? ⟨g,2,none⟩=false∧W.frozen? ⟨g,3,none⟩=false∧W.frozen? ⟨g,4,none⟩=false∧W.frozen? ⟨g,5,none⟩=false:=by
 refine⟨?_,?_,?_,?_,?_,?_,?_,?_,?_,?_,?_,?_⟩ <;> simp [World.cell?,World.frozen?,h]
def put6 (W:World) (g:Nat) (a b c d e f:Value):World:=(((((W.setCell ⟨g,0,none⟩ a).setCell ⟨g,1,none⟩ b).setCell ⟨g,2,none⟩ c).setCell ⟨g,3,none⟩ d).setCell ⟨g,4,none⟩ e).setCell ⟨g,5,none⟩ f
theorem af {w W:World} {g:Nat} (h:Ext w W) (hg:w.heap.size≤g) (a b c d e f:Value):Ext w (put6 W g a b c d e f):=
 ((((((h.setCell hg _).setCell hg _).setCell hg _).setCell hg _).setCell hg _).setCell hg _)
theorem ah {W:World} {g k:Nat} {o:Obj} (h:W.heap[k]?=some o) (hne:k≠g) (a b c d e f:Value):(put6 W g a b c d e f).heap[k]?=some o:=by
 unfold put6;rw [Below.heap_setCell _ _ _ _ hne,Below.heap_setCell _ _ _ _ hne,Below.heap_setCell _ _ _ _ hne,Below.heap_setCell _ _ _ _ hne,Below.heap_setCell _ _ _ _ hne,Below.heap_setCell _ _ _ _ hne];exact h
theorem ag {W:World} {g:Nat} {a0 b0 c0 d0 e0 f0:Value} {T:TypeId} (h:W.heap[g]?=some (.cells #[a0,b0,c0,d0,e0,f0] T (0,0))) (a b c d e f:Value):(put6 W g a b c d e f).heap[g]?=some (.cells #[a,b,c,d,e,f] T (0,0)):=by
 unfold put6
 simp [World.setCell,Array.getElem?_modify,h]
theorem Wd.put6 {W:World} {v:Value} {q g:Nat} {b1 b2:Bool} {A B C D:Option Addr} {k ca l cb m cc n cd:Nat} {T:TypeId} (h:Wd W v q) (hg:W.heap[g]?=some (.cells #[.bool b1,.slice A k ca,.slice B l cb,.bool b2,.slice C m cc,.slice D n cd] T (0,0))) (a b c d e f:Value):Wd (put6 W g a b c d e f) v q:=by
 obtain⟨A',cx,e',hc,hcl⟩:=h;refine⟨A',cx,e',hc,?_⟩
 rcases Nat.eq_zero_or_pos (dg q).length with h0|h0
 ·left;rw [List.length_eq_zero_iff.1 h0];rfl
 ·obtain⟨bl,o,hA,hce⟩:=hcl.at_ (by simpa using h0)
  right
  refine⟨bl,o,hA,fun j hj=>?_⟩;have hj':j<(dg q).length:=by simpa using hj
  have h1:=hce j hj
  have hne:bl≠g:=by
   intro hb;subst hb;rw [getD_map_u64 _ _ hj'] at h1
   simp only [World.cell?,hg] at h1
   rcases Nat.lt_or_ge (o+j) 6 with h3|h3
   ·rcases(show o+j=0∨o+j=1∨o+j=2∨o+j=3∨o+j=4∨o+j=5 by omega) with e|e|e|e|e|e <;> rw [e] at h1 <;> simp at h1
   ·rw [Array.getElem?_eq_none (by simpa using h3)] at h1
    simp at h1
  rw [←h1]
  apply World.cell?_of_block
  unfold Go.Proofs.YtjamgccgoapbeaaGreatDoor.put6;rw [Below.heap_setCell _ _ _ _ hne,Below.heap_setCell _ _ _ _ hne,Below.heap_setCell _ _ _ _ hne,Below.heap_setCell _ _ _ _ hne,Below.heap_setCell _ _ _ _ hne,Below.heap_setCell _ _ _ _ hne]
theorem Nm.put6 {W:World} {v:Value} {q:Rat} {g:Nat} {b1 b2:Bool} {A B C D:Option Addr} {k ca l cb m cc n cd:Nat} {T:TypeId} (h:Nm W v q) (hg:W.heap[g]?=some (.cells #[.bool b1,.slice A k ca,.slice B l cb,.bool b2,.slice C m cc,.slice D n cd] T (0,0))) (a b c d e f:Value):Nm (put6 W g a b c d e f) v q:=by
 obtain⟨vn,vd,e',h1,h2⟩:=h;exact⟨vn,vd,e',h1.put6 hg ..,h2.put6 hg ..⟩
def aq (lo hi:Rat):Rat × Rat:=if hi<lo then (hi,lo) else (lo,hi)
theorem sorted_c (M:Nat) (hM:M≤1099511627776) (v:Value) (lo hi:Rat) (w:World) (h:Sp w v lo hi) (b1:Bq M lo) (b2:Bq M hi):Calls Tryz.prog 98 #[v] w fun e w'=>∃v',e=.returned v'∧Sp w' v' (aq lo hi).1 (aq lo hi).2∧Ext w w':=by
 obtain⟨c1,A,k,ca,B,l,cb,c2,C,m,cc,D,n,cd,rfl,h1,h2⟩:=h.form;have H1:=ZZ h1;have H2:=ZZ h2;have B1:=ZZ b1;have B2:=ZZ b2;have HM:=ZZ hM;clear h h1 h2 b1 b2 hM
 go_enter Tryz.func98,Tryz.ntmps98
 go_wp2_with fail;refine(cmp_q M HM.out _ _ _ _ _ (H1.out.mono (ext2 _ _ _)) (H2.out.mono (ext2 _ _ _)) B1.out B2.out).mono ?_
 rintro e w3 ⟨rfl,k3⟩;have hrb:=row6 (al (ab _ (.cells #[.bool false,.slice none 0 0,.slice none 0 0,.bool false,.slice none 0 0,.slice none 0 0] 37)) k3)
 have hrz:w3.heap[w.heap.size+1]?=some (.cells #[.bool false,.slice none 0 0,.slice none 0 0,.bool false,.slice none 0 0,.slice none 0 0] 37 (0,0)):=by
  have q:=row6 k3
  simpa using q
 obtain⟨x0,x1,x2,x3,x4,x5,-⟩:=ai hrb;obtain⟨z0,z1,z2,z3,z4,z5,f0,f1,f2,f3,f4,f5⟩:=ai hrz;have HRZ:=ZZ hrz;have KW:=ZZ (al (ext2 _ _ _) k3);clear hrb hrz k3;generalize hcv:cmpQ lo hi=cv at *;have HCV:=ZZ hcv;clear hcv
 rcases(show 0<cv∨cv≤0 by omega) with hc|hc
 ·have HLT:=ZZ (show hi<lo by
   have h1:=(cmpQ_pos lo hi).1;have h2:=cmpQ_one lo hi;rw [HCV.out] at h1 h2;exact h1 (by omega))
  go_wp2_with fail;refine bodyPost_ret (v:=.agg #[.bool c2,.slice C m cc,.slice D n cd,.bool c1,.slice A k ca,.slice B l cb]) (by simp [results,Tryz.f98];go_simp) rfl ?_
  refine⟨_,rfl,?_,af KW.out (Nat.le_succ _) _ _ _ _ _ _⟩;rw [show aq lo hi=(hi,lo) from if_pos HLT.out];exact⟨_,_,_,_,_,_,rfl,(H2.out.mono KW.out).put6 HRZ.out _ _ _ _ _ _,(H1.out.mono KW.out).put6 HRZ.out _ _ _ _ _ _⟩
 ·have HLT:=ZZ (show ¬ hi<lo from fun h=>by
   have h1:=(cmpQ_pos lo hi).2 h;rw [HCV.out] at h1
   omega)
  go_wp2_with fail;refine bodyPost_ret (v:=.agg #[.bool c1,.slice A k ca,.slice B l cb,.bool c2,.slice C m cc,.slice D n cd]) (by simp [results,Tryz.f98];go_simp) rfl ?_
  refine⟨_,rfl,?_,af KW.out (Nat.le_succ _) _ _ _ _ _ _⟩;rw [show aq lo hi=(lo,hi) from if_neg HLT.out];exact⟨_,_,_,_,_,_,rfl,(H1.out.mono KW.out).put6 HRZ.out _ _ _ _ _ _,(H2.out.mono KW.out).put6 HRZ.out _ _ _ _ _ _⟩
end Go.Proofs.YtjamgccgoapbeaaGreatDoor
set_option linter.unusedVariables false
set_option maxRecDepth 100000
set_option maxHeartbeats 64000000
namespace Go.Proofs.YtjamgccgoapbeaaGreatDoor
open Go.RowKit
theorem natOf_split (l:List UInt8) (c n:Nat) (h:c+n≤l.length):natOf (l.take (c+n))=natOf (l.take c)*10 ^ n+natOf ((l.drop c).take n):=by
 rw [List.take_add,natOf_append];rw [List.length_take,List.length_drop,Nat.min_eq_left (by omega)]
theorem dr_ten {n k:Nat} (h:n<10 ^ k):(dr n).length≤k:=by
 apply dig_length_le B30_two
 have:10 ^ k≤B30 ^ k:=Nat.pow_le_pow_left (by rw [B30_eq];omega) k
 omega
theorem natural_r (l:List UInt8) (hd:∀c ∈ l,isDig c=true) (hl:l.length≤1000000) (w:World):Calls Tryz.prog 132 #[.string ⟨l.toArray⟩] w fun e w'=>∃v,e=.returned v∧Wr w' v (natOf l)∧Ext w w':=by
 have HDG:=ZZ hd;clear hd
 go_enter Tryz.func132,Tryz.ntmps132
 go_wp2_with fail
 go_loopg [0,3] (l.length) (fun gk s out wr=>∃(c:Nat) (y:List UInt8),c+gk=l.length∧y.length=gk∧s=.string ⟨y.toArray⟩∧Hid (y=l.drop c)∧Hid (Wr wr out (natOf (l.take c)))∧Hid (Ext w wr))
 case atStart=>exact⟨0,l,by omega,rfl,rfl,ZZ (by simp),ZZ (Wr.zero _),ZZ (ae _)⟩
 case round=>
  obtain⟨G,hG⟩:∃G,G=gk:=⟨_,rfl⟩;subst hG;obtain⟨c,y,hc,hy,rfl,HY,HW,HE⟩:=hrel;have hsz:(⟨y.toArray⟩:ByteArray).size=G:=by rw [←hy];simp [ByteArray.size]
  have HYL:=ZZ hy;have HCL:=ZZ hc
  rcases Nat.eq_zero_or_pos G with hz|hz
  ·subst hz
   have HF:=ZZ (show natOf (l.take c)=natOf l by rw [List.take_of_length_le (by omega)]);clear hy hc;go_wp2_with fail;go_ret;exact⟨_,rfl,by rw [←HF.out];exact HW.out,HE.out⟩
  ·obtain⟨nn,hnn,hn1,hn9,hng⟩:∃nn:Nat,min (G:Int) 9=(nn:Int)∧1≤nn∧nn≤9∧nn≤G:=⟨min G 9,by omega,by omega,by omega,by omega⟩
   have hgl:G≤1000000:=by omega
   have HGP:=ZZ hz;clear hy hc;go_wp2_with fail
   go_loopg [5,6,7] nn (fun g p f i wx=>∃t P F:Nat,t+g=nn∧i=.int .i64 (t:Int)∧p=.int .i64 (P:Int)∧f=.int .i64 (F:Int)∧P=natOf (y.take t)∧F=10 ^ t∧P<1000000000∧F≤1000000000∧wx=wr)
   case atStart=>exact⟨0,0,1,by omega,rfl,rfl,rfl,by simp [natOf],rfl,by omega,by omega,rfl⟩
   case round=>
    obtain⟨t,P,F,ht,rfl,rfl,rfl,hP,hF,hPb,hFb,rfl⟩:=hrel;have HP:=ZZ hP;have HF:=ZZ hF;clear hP hF
    rcases Nat.eq_zero_or_pos gk with hz|hz
    ·subst hz
     obtain rfl:t=nn:=by omega
     have hx2:(⟨y.toArray⟩:ByteArray).extract t G=⟨(y.drop t).toArray⟩:=by
      apply ByteArray.ext;simp;exact List.take_of_length_le (by simp;have:=HYL.out;omega)
     have SO:=ZZ (show Sr (natOf (l.take c)) by
      have h1:=natOf_lt (l.take c) (fun z hz=>HDG.out z (List.mem_of_mem_take hz));have h2:=dr_ten h1;rw [List.length_take] at h2;unfold Sr;omega)
     have SF:=ZZ (show Sr F by
      have:=dr_ten (n:=F) (k:=10) (by omega)
      unfold Sr;omega)
     have SP:=ZZ (show Sr P by
      have:=dr_ten (n:=P) (k:=10) (by omega)
      unfold Sr;omega)
     have HSPL:=ZZ (show natOf (l.take (c+t))=natOf (l.take c)*F+P by
      rw [natOf_split l c t (by have:=HCL.out;omega),HF.out,HP.out,HY.out])
     have SOF:=ZZ (show Sr (natOf (l.take c)*F) by
      have h1:=natOf_lt (l.take c) (fun z hz=>HDG.out z (List.mem_of_mem_take hz));have h2:=dr_ten h1;have h3:=dr_ten (n:=F) (k:=10) (by omega);have h4:=dig_length_mul B30_two (natOf (l.take c)) F;rw [List.length_take] at h2;unfold Sr dr at *;omega)
     have hw1:(t:Int)≤(G:Int):=by omega
     go_wp2_with fail;refine(small_r F (by omega) _).mono ?_
     rintro e w2 ⟨v2,rfl,h2,k2⟩;have H2:=ZZ h2;have K2:=ZZ k2;clear h2 k2;go_wp2_with fail;refine(times_r _ v2 (natOf (l.take c)) F _ (HW.out.mono K2.out) H2.out SO.out SF.out).mono ?_;rintro e w3 ⟨v3,rfl,h3,k3⟩;have H3:=ZZ h3;have K3:=ZZ (al K2.out k3);clear h3 k3;go_wp2_with fail;refine(small_r P (by omega) _).mono ?_;rintro e w4 ⟨v4,rfl,h4,k4⟩;have H4:=ZZ h4;have K4:=ZZ (al K3.out k4);have H3':=ZZ (H3.out.mono k4);clear h4 k4;go_wp2_with fail;refine(plus_r v3 v4 (natOf (l.take c)*F) P _ H3'.out H4.out SOF.out SP.out).mono ?_;rintro e w5 ⟨v5,rfl,h5,k5⟩;have H5:=ZZ h5;have K5:=ZZ (al HE.out (al K4.out k5));clear h5 k5;go_wp2_with fail
     go_roundg (G - t)
     case measure=>have:=HGP.out;omega
     case rel=>
      refine⟨c+t,y.drop t,by have:=HCL.out;omega,by rw [List.length_drop,HYL.out],rfl,ZZ (by rw [HY.out,List.drop_drop]),?_,K5⟩;rw [HSPL.out];exact H5
    ·have htl:t<y.length:=by have:=HYL.out;omega
     have hz1:t<(⟨y.toArray⟩:ByteArray).size:=by rw [hsz];omega
     have hge:(⟨y.toArray⟩:ByteArray)[t]'hz1=y[t]:=by rfl
     have hsub:∀z ∈ y,z ∈ l:=fun z hz=>by rw [HY.out] at hz;exact List.mem_of_mem_drop hz
     have HSUB:=ZZ hsub;have hdig:=HDG.out y[t] (hsub _ (List.getElem_mem _));clear hsub;rw [isDig_iff] at hdig;obtain⟨dg,hdg⟩:∃dg:Nat,dg=(y[t]).toNat - 48:=⟨_,rfl⟩;have HNX:=ZZ (show natOf (y.take (t+1))=10*P+dg by rw [natOf_take_succ y t htl,←HP.out,hdg]);have hdb:dg≤9:=by omega
     have HTL:=ZZ htl
     have hw1:IntKind.u8.wrap ((((⟨y.toArray⟩:ByteArray)[t]'hz1).toNat:Int) - 48)=(dg:Int):=by
      rw [hge,IntWalk.u8_in _ (by omega)];omega
     obtain⟨P1,hP1⟩:∃P1:Nat,P1=10*P:=⟨_,rfl⟩;obtain⟨P2,hP2⟩:∃P2:Nat,P2=P1+dg:=⟨_,rfl⟩;obtain⟨F1,hF1⟩:∃F1:Nat,F1=10*F:=⟨_,rfl⟩;have hw2:IntKind.i64.wrap (10*(P:Int))=(P1:Int):=(IntWalk.i64_in _ (by omega)).trans (by omega);have hw3:IntKind.i64.wrap (dg:Int)=(dg:Int):=IntWalk.i64_in _ (by omega);have hw4:IntKind.i64.wrap ((P1:Int)+(dg:Int))=(P2:Int):=(IntWalk.i64_in _ (by omega)).trans (by omega);have hw5:IntKind.i64.wrap (10*(F:Int))=(F1:Int):=(IntWalk.i64_in _ (by omega)).trans (by omega);have HP2:=ZZ (show P2=natOf (y.take (t+1)) by rw [HNX.out,hP2,hP1]);have HF2:=ZZ (show F1=10 ^ (t+1) by rw [hF1,HF.out,Nat.pow_succ,Nat.mul_comm])
     have HB2:=ZZ (show P2<1000000000 by
      rw [HP2.out];have h1:=natOf_lt (y.take (t+1)) (fun z hz=>HDG.out z (HSUB.out z (List.mem_of_mem_take hz)));have h3:(y.take (t+1)).length≤9:=by rw [List.length_take];omega
      have h4:10 ^ (y.take (t+1)).length≤10 ^ 9:=Nat.pow_le_pow_right (by omega) h3
      omega)
     have HB3:=ZZ (show F1≤1000000000 by
      rw [HF2.out];have h4:10 ^ (t+1)≤10 ^ 9:=Nat.pow_le_pow_right (by omega) (by omega)
      omega)
     have HZ0:=ZZ hz;clear hge hdig hdg hP1 hP2 hF1;go_wp2_with fail
     go_roundg (gk - 1)
     case measure=>have:=HZ0.out;omega
     case rel=>exact⟨t+1,P2,F1,by omega,by first|rfl|simp,rfl,rfl,HP2.out,HF2.out,HB2.out,HB3.out,rfl⟩
end Go.Proofs.YtjamgccgoapbeaaGreatDoor
set_option linter.unusedVariables false
set_option maxRecDepth 100000
set_option maxHeartbeats 64000000
namespace Go.Proofs.YtjamgccgoapbeaaGreatDoor
def pcv (f g:Nat→Rat):Nat→Nat→Rat
 | 0,_=>0
 | i+1,k=>pcv f g i k+(if i≤k then f i*g (k - i) else 0)
theorem pcv_succ (f g:Nat→Rat) (i k:Nat):pcv f g (i+1) k=pcv f g i k+(if i≤k then f i*g (k - i) else 0):=rfl
theorem pcv_shift (f g:Nat→Rat) (i k:Nat):pcv f g (i+1) (k+1)=f 0*g (k+1)+pcv (fun j=>f (j+1)) g i k:=by
 induction i with
 | zero=>rw [pcv_succ,if_pos (Nat.zero_le _)];show 0+f 0*g (k+1)=f 0*g (k+1)+0;grind
 | succ i ih=>
  rw [pcv_succ,ih,pcv_succ (fun j=>f (j+1)),Nat.add_sub_add_right]
  by_cases h:i≤k
  ·rw [if_pos h,if_pos (by omega)];grind
  ·rw [if_neg h,if_neg (by omega)];grind
theorem pcv_more (f g:Nat→Rat) (k n:Nat):pcv f g (k+1+n) k=pcv f g (k+1) k:=by
 induction n with
 | zero=>rfl
 | succ n ih=>rw [show k+1+(n+1)=(k+1+n)+1 by omega,pcv_succ,if_neg (by omega),ih];grind
theorem pcv_zero {f:Nat→Rat} {m:Nat} (h:∀i,m≤i→f i=0) (g:Nat→Rat) (k n:Nat):pcv f g (m+n) k=pcv f g m k:=by
 induction n with
 | zero=>rfl
 | succ n ih=>
  rw [show m+(n+1)=(m+n)+1 by omega,pcv_succ,ih,h (m+n) (by omega)]
  split <;> grind
theorem cnv_pcv (f g:Nat→Rat) (k:Nat):cnv f g k=pcv f g (k+1) k:=by
 induction k generalizing f with
 | zero=>rw [pcv_succ,if_pos (Nat.le_refl _)];show f 0*g 0=0+f 0*g 0;grind
 | succ k ih=>rw [cnv_succ,ih,pcv_shift]
theorem pcv_all {f:Nat→Rat} {m:Nat} (h:∀i,m≤i→f i=0) (g:Nat→Rat) (k:Nat):pcv f g m k=cnv f g k:=by
 rw [cnv_pcv]
 rcases Nat.le_total m (k+1) with e|e
 ·obtain⟨n,hn⟩:∃n,k+1=m+n:=⟨k+1 - m,by omega⟩
  rw [hn,pcv_zero h]
 ·obtain⟨n,hn⟩:∃n,m=k+1+n:=⟨m - (k+1),by omega⟩
  rw [hn,pcv_more]
def accL (p q:List Rat) (i j:Nat):List Rat:=(List.range (p.length+q.length)).map fun k=>pcv (co p) (co q) i k+(if i≤k∧k<i+j then co p i*co q (k - i) else 0)
theorem acc_len (p q:List Rat) (i j:Nat):(accL p q i j).length=p.length+q.length:=by simp [accL]
theorem acc_get (p q:List Rat) (i j:Nat) {k:Nat} (hk:k<p.length+q.length):(accL p q i j)[k]?=some (pcv (co p) (co q) i k+(if i≤k∧k<i+j then co p i*co q (k - i) else 0)):=by
 unfold accL;rw [List.getElem?_map,List.getElem?_range hk];rfl
theorem acc_ext (p q:List Rat) (i j i' j':Nat) (h:∀k,pcv (co p) (co q) i k+(if i≤k∧k<i+j then co p i*co q (k - i) else 0)=pcv (co p) (co q) i' k+(if i'≤k∧k<i'+j' then co p i'*co q (k - i') else 0)):accL p q i j=accL p q i' j':=by
 unfold accL;exact List.map_congr_left fun k _=>h k
theorem acc_zero (p q:List Rat):accL p q 0 0=List.replicate (p.length+q.length) 0:=by
 apply List.ext_getElem?
 intro k
 rcases Nat.lt_or_ge k (p.length+q.length) with hk|hk
 ·rw [acc_get p q 0 0 hk,if_neg (by omega),List.getElem?_replicate,if_pos hk]
  show some ((0:Rat)+0)=some 0
  rw [Rat.add_zero]
 ·rw [List.getElem?_eq_none (by rw [acc_len];exact hk),List.getElem?_eq_none (by rw [List.length_replicate];exact hk)]
theorem acc_at (p q:List Rat) {i j:Nat} (hi:i<p.length) (hj:j<q.length):(accL p q i j)[i+j]?=some (pcv (co p) (co q) i (i+j)):=by
 rw [acc_get p q i j (by omega),if_neg (by omega),Rat.add_zero]
theorem acc_set (p q:List Rat) {i j:Nat} (hi:i<p.length) (hj:j<q.length):(accL p q i j).set (i+j) (pcv (co p) (co q) i (i+j)+co p i*co q j)=accL p q i (j+1):=by
 apply List.ext_getElem?
 intro k
 rcases Nat.lt_or_ge k (p.length+q.length) with hk|hk
 ·by_cases e:i+j=k
  ·subst e
   rw [List.getElem?_set_self (by rw [acc_len];exact hk),acc_get p q i (j+1) hk,if_pos (by omega),Nat.add_sub_cancel_left]
  ·rw [List.getElem?_set_ne e,acc_get p q i j hk,acc_get p q i (j+1) hk]
   by_cases h:i≤k∧k<i+j
   ·rw [if_pos h,if_pos (by omega)]
   ·rw [if_neg h,if_neg (by omega)]
 ·rw [List.getElem?_eq_none (by rw [List.length_set,acc_len];exact hk),List.getElem?_eq_none (by rw [acc_len];exact hk)]
theorem acc_next (p q:List Rat) (i:Nat):accL p q i q.length=accL p q (i+1) 0:=by
 refine acc_ext _ _ _ _ _ _ fun k=>?_;rw [pcv_succ,if_neg (c:=i+1≤k∧k<i+1+0) (by omega),Rat.add_zero]
 by_cases h:i≤k
 ·by_cases h2:k<i+q.length
  ·rw [if_pos ⟨h,h2⟩,if_pos h]
  ·rw [if_neg (by omega),if_pos h,co_ge (p:=q) (i:=k - i) (by omega)];grind
 ·rw [if_neg (by omega),if_neg h]
theorem acc_skip (p q:List Rat) (i:Nat) (h0:co p i=0):accL p q i 0=accL p q (i+1) 0:=by
 refine acc_ext _ _ _ _ _ _ fun k=>?_;rw [pcv_succ,if_neg (c:=i+1≤k∧k<i+1+0) (by omega),if_neg (c:=i≤k∧k<i+0) (by omega),h0]
 split <;> grind
def mulF (p q:List Rat):List Rat:=trimF (mulR p q)
theorem mulF_acc (p q:List Rat):trimF (accL p q p.length 0)=mulF p q:=trim_co fun k=>by
 rw [co_mulR]
 rcases Nat.lt_or_ge k (p.length+q.length) with hk|hk
 ·show ((accL p q p.length 0)[k]?).getD 0=_
  rw [acc_get p q _ 0 hk,if_neg (by omega),Rat.add_zero];exact pcv_all (fun i hi=>co_ge hi) _ _
 ·rw [co_ge (by rw [acc_len];exact hk),←pcv_all (m:=p.length) (fun i hi=>co_ge hi)]
  have h:∀n,n≤p.length→pcv (co p) (co q) n k=0:=by
   intro n
   induction n with
   | zero=>intro _;rfl
   | succ n ih=>
    intro hn;rw [pcv_succ,ih (by omega),co_ge (p:=q) (i:=k - n) (by omega)]
    split <;> grind
  exact(h _ (Nat.le_refl _)).symm
theorem bq_co {M:Nat} {p:List Rat} (hM:0<M) (h:∀x ∈ p,Bq M x) (i:Nat):Bq M (co p i):=by
 rcases Nat.lt_or_ge i p.length with hi|hi
 ·have e:p[i]?=some (co p i):=by unfold co;rw [List.getElem?_eq_getElem hi];rfl
  exact h _ (List.mem_of_getElem? e)
 ·rw [co_ge hi];exact bq_zero M hM
theorem pcv_bq {M:Nat} {f g:Nat→Rat} (hf:∀i,Bq M (f i)) (hg:∀i,Bq M (g i)) (i k:Nat):Bq (i*(M+M+1)+1) (pcv f g i k):=by
 induction i with
 | zero=>exact bq_zero _ (by omega)
 | succ i ih=>
  rw [pcv_succ]
  split
  ·exact(ih.add ((hf i).mul (hg (k - i)))).mono (by rw [Nat.succ_mul];omega)
  ·rw [Rat.add_zero];exact ih.mono (by rw [Nat.succ_mul];omega)
theorem bq_mulF {M:Nat} {p q:List Rat} (hM:0<M) (hp:∀x ∈ p,Bq M x) (hq:∀x ∈ q,Bq M x):∀x ∈ mulF p q,Bq (p.length*(M+M+1)+1) x:=by
 intro x hx;obtain⟨k,hk⟩:=List.mem_iff_getElem?.1 (show x ∈ mulF p q from hx);have e:co (mulF p q) k=x:=by unfold co;rw [hk];rfl
 rw [←e,show co (mulF p q) k=cnv (co p) (co q) k by unfold mulF;rw [co_trim,co_mulR],←pcv_all (m:=p.length) (fun i hi=>co_ge hi)];exact pcv_bq (bq_co hM hp) (bq_co hM hq) _ _
end Go.Proofs.YtjamgccgoapbeaaGreatDoor
set_option linter.unusedVariables false
set_option maxRecDepth 100000
set_option maxHeartbeats 64000000
namespace Go.Proofs.YtjamgccgoapbeaaGreatDoor
open Go Go.RowKit
theorem ext_grows {A B:World} (h:Ext A B):A.grownBy B none:=⟨h.os,h.tape,h.output,h.size,fun k hk _=>h.block k hk⟩
def KeepZ (Z:Nat→Obj→Prop) (A B:World):Prop:=A.heap.size≤B.heap.size∧∀k o,A.heap[k]?=some o→o.isCells=true→Z k o→B.heap[k]?=some o
theorem KeepZ.trans {Z:Nat→Obj→Prop} {A B C:World} (h:KeepZ Z A B) (k:KeepZ Z B C):KeepZ Z A C:=⟨Nat.le_trans h.1 k.1,fun i o hi ho hz=>k.2 i o (h.2 i o hi ho hz) ho hz⟩
theorem KeepZ.of_ext {Z:Nat→Obj→Prop} {A B:World} (h:Ext A B):KeepZ Z A B:=⟨h.size,fun i o hi _ _=>(h.block i (Array.getElem?_eq_some_iff.1 hi).1).trans hi⟩
theorem KeepZ.turn {Z:Nat→Obj→Prop} {A:World} {l:Nat} {o:Obj} (o':Obj) (h:A.heap[l]?=some o) (ho:o.isCells=false):KeepZ Z A (A.putObj l o'):=
 ⟨by simp,fun i u hi hu _=>by
  by_cases e:i=l
  ·subst e;rw [h] at hi;cases hi;rw [ho] at hu;cases hu
  ·exact(World.putObj_heap_other e).trans hi⟩
def SeqR {α:Type} (P:Program) (n:Nat) (g:Nat) (lb:Array Value) (encs:α→Array Value) (R:α→World→Prop) (Z:Nat→Obj→Prop) (S:List α→World→Prop) (N:Nat) (w:World):Prop:=
 ∀(l:Nat) (J:List α→World→Prop) (W:World),Ext w W→(∀pre A B,J pre A→Ext A B→J pre B)→(∀pre x W1,J pre W1→R x W1→pre.length<N→YieldAt Fence.wide (n - 1) P l (encs x) W1 fun e W'=>e=.returned (.bool true)∧J (pre ++ [x]) W'∧KeepZ Z W1 W')→J [] W→CallsIn Fence.wide n P g (#[.func (.yield l) #[] #[]] ++ lb) W fun e W'=>(∃v,e=.returned v)∧∃xs,S xs W'∧J xs W'
def lrec (fn:FuncId) (tmps:Array Value) (ps:Array Tmp) (assign body:Code) (B:Nat) (st:LoopState) (pe:Option Code):Loop:=
 { state:=st,pending:=pe,fn,tmps,params:=ps,assign,body,defers:=B }
theorem wpIn_rangeR {α:Type} {P:Program} {n:Nat} {g:Operand} {ps:Array Tmp} {assign body:Code} {Q:Exit→Act→World→Prop} {a:Act} {w w0:World} {gf:Nat} {lb:Array Value} (hg:a.eval g=.func (.func gf) #[] lb) (eg:∀args w,(callFunc gf args).run P w=.ok (.enter gf args) w) {encs:α→Array Value} {R:α→World→Prop} {Z:Nat→Obj→Prop} {S:List α→World→Prop} {N:Nat} (hseq:SeqR P (n - 1) gf lb encs R Z S N w0) (hw:Ext w0 w) (hps:∀x,(encs x).size=ps.size) (I:List α→World→Prop) (hI:OwnFrom w.heap.size I) (h0:I [] w) (Ax:α→Act→World→Prop) (hAx:∀x a',OwnFrom w.heap.size (fun (_:Unit) W=>Ax x a' W)) (hS:OwnFrom w.heap.size S) (hassign:∀(l:Nat) (pre:List α) (x:α) (W:World) (K:Act→World→Prop),I pre W→R x W→(∀a' W',Ext W W'→Ax x a' W'→K a' W')→assign.wpIn (Fence.wide.inRound l) (n - 1 - 1) P (Exit.then K (fun _ _ _=>False)) { tmps:=(ps.zip (encs x)).foldl (fun t (p,v)=>t.setIfInBounds p v) a.tmps,defers:=[] } W) (hbody:∀(l:Nat) (pre:List α) (x:α) (a':Act) (W:World),I pre W→Ax x a' W→pre.length<N→body.wpIn (Fence.wide.inRound l) (n - 1 - 1) P (fun e _ W'=>e=.normal∧KeepsFrom w.heap.size W W'∧KeepZ Z W W'∧I (pre ++ [x]) W') a' W) (hdone:∀(D:Nat) (xs:List α) (W:World),w.heap.size≤D→S xs W→I xs W→W.heap[D]?=some (.deferred (some []))→Q .normal { a with defers:={ target:=.collected D,args:=#[] } :: a.defers } W):(Code.rangeFunc g ps assign body).wpIn Fence.wide n P Q a w:=by
 refine wpIn_rangeFunc fun fn hfn=>?_;have size1:∀o:Obj,(w.alloc o).heap.size=w.heap.size+1:=fun o=>World.size_alloc w o;obtain⟨W1,hW1⟩:∃W1,W1=(w.alloc (.deferred (some []))).alloc (.loop (lrec fn a.tmps ps assign body w.heap.size .ready none)):=⟨_,rfl⟩;have x1:Ext w W1:=by rw [hW1];exact al (ab _ _) (ab _ _)
 have hL:W1.heap[w.heap.size+1]?=some (.loop (lrec fn a.tmps ps assign body w.heap.size .ready none)):=by
  rw [hW1,←size1 (.deferred (some []))];exact World.alloc_heap_new _ _
 have hD:W1.heap[w.heap.size]?=some (.deferred (some [])):=by
  rw [hW1];exact((ab (w.alloc (.deferred (some []))) _).block _ (by rw [size1];omega)).trans (World.alloc_heap_new w _)
 have hI1:I [] W1:=hI _ _ _ _ h0 (ext_grows x1) (fun r e=>by cases e);refine⟨w.heap.size+1,[{ target:=.collected w.heap.size,args:=#[] }],W1,{ target:=.fn (.func gf) lb,args:=#[.func (.yield (w.heap.size+1)) #[] #[]] },W1,gf,#[.func (.yield (w.heap.size+1)) #[] #[]] ++ lb,W1,?_,?_,fun _ _=>trivial,?_,fun h=>(by cases h),?_⟩
 ·rw [hW1];exact run_enterLoop_outer _ _ _ _ _
 ·simp only [resolve,hg];simp [go_sem]
 ·simp [invoke,go_sem,eg]
 ·refine(hseq (w.heap.size+1) (fun pre W=>I pre W∧W.heap[w.heap.size+1]?=some (.loop (lrec fn a.tmps ps assign body w.heap.size .ready none))∧W.heap[w.heap.size]?=some (.deferred (some []))) W1 (al hw x1) (fun pre A B h k=>⟨hI _ _ _ _ h.1 (ext_grows k) (fun r e=>by cases e),(k.block _ (Array.getElem?_eq_some_iff.1 h.2.1).1).trans h.2.1,(k.block _ (Array.getElem?_eq_some_iff.1 h.2.2).1).trans h.2.2⟩) ?_ ⟨hI1,hL,hD⟩).mono ?_
  ·rintro pre x W ⟨hi,hl,hk⟩ hr hlen
   refine⟨fn,_,assign,body,run_yield (args:=encs x) hl (hps x),roundIn_of_wpIn hfn (hassign _ pre x W _ hi hr fun a' Wa ka hax=>?_)⟩;have hia:I pre Wa:=hI _ _ _ _ hi (ext_grows ka) (fun r e=>by cases e);have hla:=(ka.block _ (Array.getElem?_eq_some_iff.1 hl).1).trans hl;have hka:=(ka.block _ (Array.getElem?_eq_some_iff.1 hk).1).trans hk;have hlt:w.heap.size+1<Wa.heap.size:=(Array.getElem?_eq_some_iff.1 hla).1;refine⟨_,run_beginRound hla rfl,?_⟩;generalize hWb:Wa.putObj (w.heap.size+1) _=Wb;have hgb:Wa.grownBy Wb (some (w.heap.size+1)):=by rw [←hWb];exact grownBy_putObj' _ _ _
   have hrow:∀r,some (w.heap.size+1)=some r→w.heap.size≤r∧∃o:Obj,Wa.heap[r]?=some o∧o.isCells=false:=fun r e=>by cases e;exact⟨by omega,_,hla,rfl⟩
   have hlb:Wb.heap[w.heap.size+1]?=some (.loop { lrec fn a.tmps ps assign body w.heap.size .ready none with state:=.busy }):=by rw [←hWb];exact World.putObj_heap_same hlt
   have hkb:Wb.heap[w.heap.size]?=some (.deferred (some [])):=by rw [←hWb];exact(World.putObj_heap_other (by omega)).trans hka
   have hzb:KeepZ Z W Wb:=(KeepZ.of_ext ka).trans (by rw [←hWb];exact KeepZ.turn _ hla rfl);refine wpIn_mono (hbody _ pre x a' Wb (hI _ _ _ _ hia hgb hrow) (hAx x a' () _ _ _ hax hgb hrow) hlen) ?_;rintro e a3 W3 ⟨rfl,hkf,hz,hi3⟩;have hl3:=hkf.same _ _ (by omega) hlb rfl;have hk3:=hkf.same _ _ (Nat.le_refl _) hkb rfl;refine⟨_,_,run_endRound none hl3,rfl,⟨hI _ _ _ _ hi3 (grownBy_putObj' _ _ _) (fun r e=>by cases e;exact⟨by omega,_,hl3,rfl⟩),?_,?_⟩,hzb.trans (hz.trans (KeepZ.turn _ hl3 rfl))⟩
   ·exact World.putObj_heap_same (Array.getElem?_eq_some_iff.1 hl3).1
   ·exact(World.putObj_heap_other (by omega)).trans hk3
  ·rintro e W2 ⟨⟨v,rfl⟩,xs,hs,hi,hl,hk⟩
   have hrow:∀r,some (w.heap.size+1)=some r→w.heap.size≤r∧∃o:Obj,W2.heap[r]?=some o∧o.isCells=false:=fun r e=>by cases e;exact⟨by omega,_,hl,rfl⟩
   refine⟨none,_,run_endLoop hl (by simp [lrec]),hdone _ xs _ (Nat.le_refl _) (hS _ _ _ _ hs (grownBy_putObj' _ _ _) hrow) (hI _ _ _ _ hi (grownBy_putObj' _ _ _) hrow) ?_⟩;exact(World.putObj_heap_other (by omega)).trans hk
end Go.Proofs.YtjamgccgoapbeaaGreatDoor
