/- Changes of sign in a chain; signs at a number and at the ends. -/
import Derived.Test.YtkoaakefgacokaaGreatDoorGYe
import Derived.Laws.StructEq
import Derived.Test.YtkoaakefgacokaaGreatDoorGTa
import Derived.Test.YtkoaakefgacokaaGreatDoorGTg
set_option linter.unusedVariables false
set_option linter.unusedSimpArgs false
set_option maxRecDepth 100000
set_option maxHeartbeats 64000000
namespace Go.Proofs.YtkoaakefgacokaaGreatDoor
open Go.RowKit
theorem eqIn_arr {P:Program} (n:Nat) (t e:TypeId) (xs ys:Array Value) (w:World) (u:P.underlying t=some (.array 2 e)) (z:∀w,(sizeOf e).run P w=.ok 1 w) (x0 x1 y0 y1:Value) (b0 b1:Bool) (p0:(part e xs 0).run P w=.ok x0 w) (p1:(part e xs 1).run P w=.ok x1 w) (q0:(part e ys 0).run P w=.ok y0 w) (q1:(part e ys 1).run P w=.ok y1 w) (h0:(Op.equalIn n e x0 y0).run P w=.ok b0 w) (h1:(Op.equalIn n e x1 y1).run P w=.ok b1 w):(Op.equalIn (n+1) t (.agg xs) (.agg ys)).run P w=.ok (b0 && b1) w:=by
 simp only [Op.equalIn,Sem.run_bind,run_underlying u,Result.andThen_ok,z]
 rw [Std.Legacy.Range.forIn_eq_forIn_range']
 cases b0 <;> cases b1 <;> simp [List.range',Std.Legacy.Range.size,p0,p1,q0,q1,h0,h1,Result.andThen_ok,Sem.run_bind]
theorem eq_pair (a b c d:Int) (w:World):(Op.equalIn 10000 113 (.agg #[.int .i64 a,.int .i64 b]) (.agg #[.int .i64 c,.int .i64 d])).run Tryz.prog w=.ok (a == c && b == d) w:=by
 have u3:=Tryz.underlying3;have part0:∀(x y:Value),(part 3 #[x,y] 0).run Tryz.prog w=.ok x w:=by intro x y;go_simp
 have part1:∀(x y:Value),(part 3 #[x,y] 1).run Tryz.prog w=.ok y w:=by intro x y;go_simp
 exact eqIn_arr 9999 113 3 _ _ w Tryz.underlying113 Tryz.sizeOf3 _ _ _ _ _ _ (part0 _ _) (part1 _ _) (part0 _ _) (part1 _ _) (run_equalIn_int w 9998 _ .i64 .i64 _ _ u3) (run_equalIn_int w 9998 _ .i64 .i64 _ _ u3)
def SgnV (w:World) (fv:Value) (sg:List Rat→Int) (Pre:List Rat→Prop):Prop:=∃g lb,fv=.func (.func g) #[] lb∧(∀args W,(callFunc g args).run Tryz.prog W=.ok (.enter g args) W)∧∀W,Ext w W→∀v l,Pl W v l→Pre l→Calls Tryz.prog g (#[v] ++ lb) W fun e W'=>e=.returned (.int .i64 (sg l))∧Ext W W'
def flipsU:Int→List Int→Int
 | _,[]=>0
 | last,s :: l=>if s=0 then flipsU last l else (if (last=1∧s = -1)∨(last = -1∧s=1) then 1 else 0)+flipsU s l
def flipsF (c:List (List Rat)) (sg:List Rat→Int):Int:=flipsU 0 (c.map sg)
theorem flips_bound (last:Int) (l:List Int):0≤flipsU last l∧flipsU last l≤l.length:=by
 induction l generalizing last with
 | nil=>exact⟨Int.le_refl _,Int.le_refl _⟩
 | cons s l ih=>
  unfold flipsU;have h1:=ih last;have h2:=ih s;rw [List.length_cons]
  split
  ·omega
  ·split <;> omega
theorem at_c (vx:Value) (x:Rat) (w:World) (hx:Nm w vx x):Calls Tryz.prog 79 #[vx] w fun e w'=>e=.returned (.func (.func 115) #[] #[.pointer (some ⟨w.heap.size,0,none⟩)])∧w'=w.alloc (.cells vx.cells 38):=by
 obtain⟨s1,A1,k1,ca1,B1,l1,cb1,rfl⟩:=hx.form2;clear hx
 go_enter Tryz.func79,Tryz.ntmps79
 go_wp2_with fail;go_ret
 exact⟨rfl,rfl⟩
def atF (x:Rat) (l:List Rat):Int:=(evR l x).num.sign
theorem at1_p (M:Nat) (hM:0<M) (x:Rat) (bx:Bq M x) (B:Nat) (s1:Bool) (A1:Option Addr) (k1 ca1:Nat) (B1:Option Addr) (l1 cb1:Nat) (v:Value) (l:List Rat) (hl:l.length≤100000) (hK:l.length*(M+M+1)+1+M≤1099511627776) (hb:∀c ∈ l,Bq M c) (w:World) (hr:w.heap[B]?=some (.cells #[.bool s1,.slice A1 k1 ca1,.slice B1 l1 cb1] 38 (0,0))) (hx:Nm w (.agg #[.bool s1,.slice A1 k1 ca1,.slice B1 l1 cb1]) x) (hp:Pl w v l):Calls Tryz.prog 115 #[v,.pointer (some ⟨B,0,none⟩)] w fun e w'=>e=.returned (.int .i64 (atF x l))∧Ext w w':=by
 have HX:=ZZ hx;have HP:=ZZ hp;obtain⟨c,hc⟩:∃c,atF x l=c:=⟨_,rfl⟩;have HCC:=ZZ (show (evR l x).num.sign=c from hc);rw [hc];obtain⟨c0,c1,c2,-⟩:=aj hr;have HE:=ZZ (eval_p M hM v _ l x hl hK w hp hx hb bx);obtain⟨A,n,cp,rfl,-⟩:=hp.form;clear hx hp hr hc hl hK hb
 go_enter Tryz.func115,Tryz.ntmps115
 go_wp2_with fail;refine HE.out.mono ?_
 rintro e w3 ⟨v3,rfl,h3,k3⟩;have H3:=ZZ h3;have K3:=ZZ k3;clear h3 k3 HE;go_wp2_with fail;refine(sign_q' _ (evR l x) _ c HCC.out H3.out).mono ?_;rintro e w4 ⟨rfl,k4⟩;have K4:=ZZ (al K3.out k4);clear k4;go_wp2_with fail;go_ret;exact⟨rfl,K4.out⟩
theorem endsV_c (b:Bool) (w:World):Calls Tryz.prog 32 #[.bool b] w fun e w'=>e=.returned (.func (.func 75) #[] #[.pointer (some ⟨w.heap.size,0,none⟩)])∧w'=w.alloc (.cells #[.bool b] 4):=by
 go_enter Tryz.func32,Tryz.ntmps32
 go_wp2_with fail;go_ret
 exact⟨rfl,rfl⟩
def endsF (minus:Bool) (l:List Rat):Int:=if minus && decide (l.length % 2=0) then -(topF l).num.sign else (topF l).num.sign
theorem ends1_p (b:Bool) (B:Nat) (v:Value) (l:List Rat) (hl:l.length≤100000) (hne:l≠[]) (w:World) (hr:w.heap[B]?=some (.cells #[.bool b] 4 (0,0))) (hp:Pl w v l):Calls Tryz.prog 75 #[v,.pointer (some ⟨B,0,none⟩)] w fun e w'=>e=.returned (.int .i64 (endsF b l))∧Ext w w':=by
 obtain⟨A,n1,cp,rfl,hn⟩:=hp.form;obtain⟨n,rfl⟩:∃n,n1=n+1:=⟨n1 - 1,by have:=List.length_pos_iff.2 hne;omega⟩;have HP:=ZZ hp;have HL:=ZZ hl;have HN:=ZZ hn;have HR:=ZZ hr;obtain⟨c,hc⟩:∃c,(topF l).num.sign=c:=⟨_,rfl⟩;have HCC:=ZZ hc;have hs:c = -1∨c=0∨c=1:=by rw [←hc];rcases Int.sign_trichotomy (topF l).num with h|h|h <;> omega
 have HE:=ZZ (show endsF b l=if b && decide ((n+1) % 2=0) then -c else c by unfold endsF;rw [hn,hc]);have q3:IntKind.i64.wrap (-c) = -c:=IntWalk.i64_in _ (by omega);clear hp hl hn hr hc hne hs
 go_enter Tryz.func75,Tryz.ntmps75
 go_wp2_with fail;refine(top_q _ l (by have:=HL.out;omega) n (topF l) HN.out (top_get HN.out) _ (by have h:=HP.out;rw [HN.out.symm] at h ⊢;exact h)).mono ?_
 rintro e w3 ⟨v3,rfl,h3,k3⟩;have H3:=ZZ h3;have K3:=ZZ k3;clear h3 k3;go_wp2_with fail;refine(sign_q' _ (topF l) _ c HCC.out H3.out).mono ?_;rintro e w4 ⟨rfl,k4⟩;have K4:=ZZ (al K3.out k4);have c0:w4.cell? ⟨B,0,none⟩=some (.bool b):=by rw [cell_of_row _ _ _ _ _ _ ((K4.out.block _ (lt_of_block HR.out)).trans HR.out)];rfl
 clear k4
 cases b with
 | false=>
  go_wp2_with fail;go_ret
  exact⟨by rw [HE.out];rfl,K4.out⟩
 | true=>
  rcases Nat.mod_two_eq_zero_or_one (n+1) with h2|h2
  ·have z1:((n:Int)+1) % 2=0:=by omega
   have z2:((n:Int)+1).tmod 2=0:=by rw [Int.tmod_eq_emod_of_nonneg (by omega)];omega
   have HM:=ZZ h2;clear h2;go_wp2_with fail;go_ret;exact⟨by rw [HE.out,HM.out];rfl,K4.out⟩
  ·have z1:((n:Int)+1) % 2=1:=by omega
   have z2:((n:Int)+1).tmod 2=1:=by rw [Int.tmod_eq_emod_of_nonneg (by omega)];omega
   have HM:=ZZ h2;clear h2;go_wp2_with fail;go_ret;exact⟨by rw [HE.out,HM.out];rfl,K4.out⟩
theorem flips_p (v fv:Value) (c:List (List Rat)) (sg:List Rat→Int) (Pre:List Rat→Prop) (hn:c.length≤1000000) (hPre:∀l ∈ c,Pre l) (w:World) (h:PlL w v c) (hf:SgnV w fv sg Pre) (z:Int) (hz:flipsF c sg=z):Calls Tryz.prog 31 #[v,fv] w fun e w'=>e=.returned (.int .i64 z)∧Ext w w':=by
 obtain⟨A,cap,rfl,-,hA⟩:=h;obtain⟨gf,lb,rfl,hen,hcl⟩:=hf;obtain⟨n,hm⟩:∃n,c.length=n:=⟨_,rfl⟩;rw [hm];have HM:=ZZ hm;have HN:=ZZ hn;have HA:=ZZ hA;have HPR:=ZZ hPre;have HCL:=ZZ hcl;have HZ:=ZZ hz;clear hm hn hA hPre hcl hz
 go_enter Tryz.func31,Tryz.ntmps31
 go_wp2_with fail
 go_loopg [13,5,6] n (fun k i cn la wr=>∃(j:Nat) (a b:Int),Hid (j+k=n)∧i=.int .i64 (j:Int)∧cn=.int .i64 a∧la=.int .i64 b∧Hid (a+flipsU b ((c.drop j).map sg)=z)∧Hid (0≤a∧a≤j)∧Hid (Ext w wr))
 case atStart=>exact⟨0,0,0,ZZ (Nat.zero_add _),rfl,rfl,rfl,ZZ (by rw [←HZ.out];unfold flipsF;rw [Int.zero_add];rfl),ZZ ⟨Int.le_refl _,Int.le_refl _⟩,ZZ (ae _)⟩
 case round=>
  obtain⟨j,a,b,HJ,rfl,rfl,rfl,HU,HB,HE⟩:=hrel;rename World=>WR
  rcases Nat.eq_zero_or_pos gk with hz|hz
  ·subst hz
   obtain rfl:j=n:=HJ.out;have q1:decide ((j:Int)<(j:Int))=false:=decide_eq_false (Int.lt_irrefl _)
   have HZA:=ZZ (show a=z from by
    have h:=HU.out;rw [List.drop_eq_nil_of_le (Nat.le_of_eq HM.out)] at h;have h2:a+0=z:=h
    omega)
   go_wp2_with fail;go_ret
   exact⟨by rw [←HZA.out];rfl,HE.out⟩
  ·have hjn:j<n:=by have:=HJ.out;omega
   have hjl:j<c.length:=by rw [HM.out];exact hjn
   have q1:decide ((j:Int)<(n:Int))=true:=decide_eq_true (by omega);have q1':decide (j<n)=true:=decide_eq_true hjn;have q4:(j:Int)<(n:Int):=by omega
   have q5:(0:Int)≤(j:Int):=by omega
   rcases HA.out with ⟨-,h5⟩|⟨bb,o,rfl,ht⟩
   ·rw [h5] at hjl;simp at hjl
   obtain⟨l,hl⟩:∃l,c[j]?=some l:=⟨c[j]'hjl,List.getElem?_eq_getElem _⟩;obtain⟨u,c0,hu⟩:=ht j l hl;obtain⟨Au,ku,cu,eu,-⟩:=hu.form;subst eu
   replace c0:=ao HE.out c0
   obtain⟨s,hs⟩:∃s,sg l=s:=⟨_,rfl⟩
   have hd:c.drop j=l :: c.drop (j+1):=by
    obtain⟨hj2,e⟩:=List.getElem?_eq_some_iff.1 hl;rw [List.drop_eq_getElem_cons hj2,e]
   have HU2:=ZZ (show a+flipsU b (s :: (c.drop (j+1)).map sg)=z from by have h:=HU.out;rw [hd,List.map_cons,hs] at h;exact h);have HCA:=ZZ (HCL.out WR HE.out _ l (hu.mono HE.out) (HPR.out l (List.mem_of_getElem? hl)));rw [hs] at HCA;have HZ2:=ZZ hz;have HJN:=ZZ hjn;clear hu hl hz hjl ht hd hs hjn;go_wp2_with fail;refine HCA.out.mono ?_;rintro e w5 ⟨rfl,k5⟩;have K5:=ZZ (al HE.out k5);clear k5 c0 HCA
   by_cases hs0:s=0
   ·subst hs0
    have z0:((0:Int) == 0)=true:=rfl;go_wp2_with fail
    go_roundg (gk - 1)
    case measure=>have:=HZ2.out;omega
    case rel=>exact⟨j+1,a,b,ZZ (by have:=HJ.out;have:=HZ2.out;omega),by have h1:=HN.out;have h2:=HM.out;have h3:=HJN.out;rw [IntWalk.wrap64_in _ ⟨by omega,by omega⟩];rfl,rfl,rfl,ZZ (by have h:=HU2.out;unfold flipsU at h;rw [if_pos rfl] at h;exact h),ZZ (by have h:=HB.out;omega),K5⟩
   ·have z0:(s == 0)=false:=beq_eq_false_iff_ne.2 hs0
    obtain⟨t1,ht1⟩:∃t,(b == 1 && s == -1)=t:=⟨_,rfl⟩;obtain⟨t2,ht2⟩:∃t,(b == -1 && s == 1)=t:=⟨_,rfl⟩;have e1:∀W,(Op.equalIn 10000 113 (.agg #[.int .i64 b,.int .i64 s]) (.agg #[.int .i64 1,.int .i64 (-1)])).run Tryz.prog W=.ok t1 W:=fun W=>by rw [←ht1];exact eq_pair b s 1 (-1) W
    have e2:∀W,(Op.equalIn 10000 113 (.agg #[.int .i64 b,.int .i64 s]) (.agg #[.int .i64 (-1),.int .i64 1])).run Tryz.prog W=.ok t2 W:=fun W=>by rw [←ht2];exact eq_pair b s (-1) 1 W
    have HST:=ZZ (show a+((if t1 || t2 then 1 else 0)+flipsU s ((c.drop (j+1)).map sg))=z from by
     have h:=HU2.out;unfold flipsU at h;rw [if_neg hs0] at h
     have key:(if t1 || t2 then (1:Int) else 0)=if (b=1∧s = -1)∨(b = -1∧s=1) then 1 else 0:=by
      rw [←ht1,←ht2]
      by_cases h1:b=1∧s = -1
      ·rw [if_pos (show (b=1∧s = -1)∨(b = -1∧s=1) from .inl h1),h1.1,h1.2];rfl
      ·by_cases h2:b = -1∧s=1
       ·rw [if_pos (show (b=1∧s = -1)∨(b = -1∧s=1) from .inr h2),h2.1,h2.2];rfl
       ·rw [if_neg (show ¬((b=1∧s = -1)∨(b = -1∧s=1)) from fun h=>h.elim h1 h2)]
        have f1:(b == 1 && s == -1)=false:=by
         rw [Bool.and_eq_false_iff,beq_eq_false_iff_ne,beq_eq_false_iff_ne]
         by_cases h:b=1
         ·exact .inr (fun e=>h1 ⟨h,e⟩)
         ·exact .inl h
        have f2:(b == -1 && s == 1)=false:=by
         rw [Bool.and_eq_false_iff,beq_eq_false_iff_ne,beq_eq_false_iff_ne]
         by_cases h:b = -1
         ·exact .inr (fun e=>h2 ⟨h,e⟩)
         ·exact .inl h
        rw [f1,f2];rfl
     rw [key];exact h)
    have hw:IntKind.i64.wrap (a+1)=a+1:=by have h:=HB.out;have h1:=HN.out;have h2:=HM.out;have h3:=HJN.out;exact IntWalk.i64_in _ (by omega)
    clear ht1 ht2 hs0
    cases t1 with
    | true=>
     go_wp2_with fail
     go_roundg (gk - 1)
     case measure=>have:=HZ2.out;omega
     case rel=>exact⟨j+1,a+1,s,ZZ (by have:=HJ.out;have:=HZ2.out;omega),by have h1:=HN.out;have h2:=HM.out;have h3:=HJN.out;rw [IntWalk.wrap64_in _ ⟨by omega,by omega⟩];rfl,rfl,rfl,ZZ (by have h:=HST.out;rw [Bool.true_or,if_pos rfl] at h;omega),ZZ (by have h:=HB.out;omega),ZZ (al K5.out (ab _ _))⟩
    | false=>
     cases t2 with
     | true=>
      go_wp2_with fail
      go_roundg (gk - 1)
      case measure=>have:=HZ2.out;omega
      case rel=>exact⟨j+1,a+1,s,ZZ (by have:=HJ.out;have:=HZ2.out;omega),by have h1:=HN.out;have h2:=HM.out;have h3:=HJN.out;rw [IntWalk.wrap64_in _ ⟨by omega,by omega⟩];rfl,rfl,rfl,ZZ (by have h:=HST.out;rw [Bool.or_true,if_pos rfl] at h;omega),ZZ (by have h:=HB.out;omega),ZZ (al K5.out (ab _ _))⟩
     | false=>
      go_wp2_with fail
      go_roundg (gk - 1)
      case measure=>have:=HZ2.out;omega
      case rel=>exact⟨j+1,a,s,ZZ (by have:=HJ.out;have:=HZ2.out;omega),by have h1:=HN.out;have h2:=HM.out;have h3:=HJN.out;rw [IntWalk.wrap64_in _ ⟨by omega,by omega⟩];rfl,rfl,rfl,ZZ (by have h:=HST.out;rw [Bool.or_false,if_neg (by decide)] at h;omega),ZZ (by have h:=HB.out;omega),ZZ (al K5.out (ab _ _))⟩
theorem natOf_split (l:List UInt8) (c n:Nat) (h:c+n≤l.length):natOf (l.take (c+n))=natOf (l.take c)*10 ^ n+natOf ((l.drop c).take n):=by
 rw [List.take_add,natOf_append];rw [List.length_take,List.length_drop,Nat.min_eq_left (by omega)]
theorem dr_ten {n k:Nat} (h:n<10 ^ k):(dr n).length≤k:=by
 apply dig_length_le B30_two
 have:10 ^ k≤B30 ^ k:=Nat.pow_le_pow_left (by rw [B30_eq];omega) k
 omega
theorem natural_f (l:List UInt8) (hd:∀c ∈ l,isDig c=true) (hl:l.length≤1000000) (w:World):Calls Tryz.prog 58 #[.string ⟨l.toArray⟩] w fun e w'=>∃v,e=.returned v∧Wr w' v (natOf l)∧Ext w w'∧Fr w.heap.size v:=by
 have HDG:=ZZ hd;clear hd
 go_enter Tryz.func58,Tryz.ntmps58
 go_wp2_with fail
 go_loopg [0,3] (l.length) (fun gk s out wr=>∃(c:Nat) (y:List UInt8),c+gk=l.length∧y.length=gk∧s=.string ⟨y.toArray⟩∧Hid (y=l.drop c)∧Hid (Wr wr out (natOf (l.take c))∧Fr w.heap.size out)∧Hid (Ext w wr))
 case atStart=>exact⟨0,l,by omega,rfl,rfl,ZZ (by simp),ZZ ⟨Wr.zero _,fun b hb=>by cases hb⟩,ZZ (ae _)⟩
 case round=>
  obtain⟨G,hG⟩:∃G,G=gk:=⟨_,rfl⟩;subst hG;obtain⟨c,y,hc,hy,rfl,HY,HW,HE⟩:=hrel;have hsz:(⟨y.toArray⟩:ByteArray).size=G:=by rw [←hy];simp [ByteArray.size]
  have HYL:=ZZ hy;have HCL:=ZZ hc
  rcases Nat.eq_zero_or_pos G with hz|hz
  ·subst hz
   have HF:=ZZ (show natOf (l.take c)=natOf l by rw [List.take_of_length_le (by omega)]);clear hy hc;go_wp2_with fail;go_ret;exact⟨_,rfl,by rw [←HF.out];exact HW.out.1,HE.out,HW.out.2⟩
  ·obtain⟨nn,hnn,hn1,hn9,hng⟩:∃nn:Nat,min (G:Int) 9=(nn:Int)∧1≤nn∧nn≤9∧nn≤G:=⟨min G 9,by omega,by omega,by omega,by omega⟩
   have hgl:G≤1000000:=by omega
   have HGP:=ZZ hz;clear hy hc;go_wp2_with fail
   go_loopg [5,6,7] nn (fun g p f i wx=>∃t P F:Nat,t+g=nn∧i=.int .i64 (t:Int)∧p=.int .i64 (P:Int)∧f=.int .i64 (F:Int)∧P=natOf (y.take t)∧F=10 ^ t∧P<1000000000∧F≤1000000000∧wx=wr)
   case atStart=>exact⟨0,0,1,by omega,rfl,rfl,rfl,by simp [natOf],rfl,by omega,by omega,rfl⟩
   case round=>
    obtain⟨t,P,F,ht,rfl,rfl,rfl,hP,hF,hPb,hFb,rfl⟩:=hrel;have HP:=ZZ hP;have HF:=ZZ hF;clear hP hF
    rcases Nat.eq_zero_or_pos gk with hz|hz
    ·subst hz
     obtain rfl:t=nn:=by omega
     have hx2:(⟨y.toArray⟩:ByteArray).extract t G=⟨(y.drop t).toArray⟩:=by
      apply ByteArray.ext;simp;exact List.take_of_length_le (by simp;have:=HYL.out;omega)
     have SO:=ZZ (show Sr (natOf (l.take c)) by
      have h1:=natOf_lt (l.take c) (fun z hz=>HDG.out z (List.mem_of_mem_take hz));have h2:=dr_ten h1;rw [List.length_take] at h2;unfold Sr;omega)
     have SF:=ZZ (show Sr F by
      have:=dr_ten (n:=F) (k:=10) (by omega)
      unfold Sr;omega)
     have SP:=ZZ (show Sr P by
      have:=dr_ten (n:=P) (k:=10) (by omega)
      unfold Sr;omega)
     have HSPL:=ZZ (show natOf (l.take (c+t))=natOf (l.take c)*F+P by
      rw [natOf_split l c t (by have:=HCL.out;omega),HF.out,HP.out,HY.out])
     have SOF:=ZZ (show Sr (natOf (l.take c)*F) by
      have h1:=natOf_lt (l.take c) (fun z hz=>HDG.out z (List.mem_of_mem_take hz));have h2:=dr_ten h1;have h3:=dr_ten (n:=F) (k:=10) (by omega);have h4:=dig_length_mul B30_two (natOf (l.take c)) F;rw [List.length_take] at h2;unfold Sr dr at *;omega)
     have hw1:(t:Int)≤(G:Int):=by omega
     go_wp2_with fail;refine(small_r F (by omega) _).mono ?_
     rintro e w2 ⟨v2,rfl,h2,k2⟩;have H2:=ZZ h2;have K2:=ZZ k2;clear h2 k2;go_wp2_with fail;refine(times_r _ v2 (natOf (l.take c)) F _ (HW.out.1.mono K2.out) H2.out SO.out SF.out).mono ?_;rintro e w3 ⟨v3,rfl,h3,k3⟩;have H3:=ZZ h3;have K3:=ZZ (al K2.out k3);clear h3 k3;go_wp2_with fail;refine(small_r P (by omega) _).mono ?_;rintro e w4 ⟨v4,rfl,h4,k4⟩;have H4:=ZZ h4;have K4:=ZZ (al K3.out k4);have H3':=ZZ (H3.out.mono k4);clear h4 k4;go_wp2_with fail;refine(plus_f v3 v4 (natOf (l.take c)*F) P _ H3'.out H4.out SOF.out SP.out).mono ?_;rintro e w5 ⟨v5,rfl,h5,k5,fr5⟩;have H5:=ZZ (And.intro h5 (show Fr w.heap.size v5 from fun b hb=>Nat.le_trans (al HE.out K4.out).size (fr5 b hb)));have K5:=ZZ (al HE.out (al K4.out k5));clear h5 k5 fr5;go_wp2_with fail
     go_roundg (G - t)
     case measure=>have:=HGP.out;omega
     case rel=>
      refine⟨c+t,y.drop t,by have:=HCL.out;omega,by rw [List.length_drop,HYL.out],rfl,ZZ (by rw [HY.out,List.drop_drop]),?_,K5⟩;rw [HSPL.out];exact H5
    ·have htl:t<y.length:=by have:=HYL.out;omega
     have hz1:t<(⟨y.toArray⟩:ByteArray).size:=by rw [hsz];omega
     have hge:(⟨y.toArray⟩:ByteArray)[t]'hz1=y[t]:=by rfl
     have hsub:∀z ∈ y,z ∈ l:=fun z hz=>by rw [HY.out] at hz;exact List.mem_of_mem_drop hz
     have HSUB:=ZZ hsub;have hdig:=HDG.out y[t] (hsub _ (List.getElem_mem _));clear hsub;rw [isDig_iff] at hdig;obtain⟨dg,hdg⟩:∃dg:Nat,dg=(y[t]).toNat - 48:=⟨_,rfl⟩;have HNX:=ZZ (show natOf (y.take (t+1))=10*P+dg by rw [natOf_take_succ y t htl,←HP.out,hdg]);have hdb:dg≤9:=by omega
     have HTL:=ZZ htl
     have hw1:IntKind.u8.wrap ((((⟨y.toArray⟩:ByteArray)[t]'hz1).toNat:Int) - 48)=(dg:Int):=by
      rw [hge,IntWalk.u8_in _ (by omega)];omega
     obtain⟨P1,hP1⟩:∃P1:Nat,P1=10*P:=⟨_,rfl⟩;obtain⟨P2,hP2⟩:∃P2:Nat,P2=P1+dg:=⟨_,rfl⟩;obtain⟨F1,hF1⟩:∃F1:Nat,F1=10*F:=⟨_,rfl⟩;have hw2:IntKind.i64.wrap (10*(P:Int))=(P1:Int):=(IntWalk.i64_in _ (by omega)).trans (by omega);have hw3:IntKind.i64.wrap (dg:Int)=(dg:Int):=IntWalk.i64_in _ (by omega);have hw4:IntKind.i64.wrap ((P1:Int)+(dg:Int))=(P2:Int):=(IntWalk.i64_in _ (by omega)).trans (by omega);have hw5:IntKind.i64.wrap (10*(F:Int))=(F1:Int):=(IntWalk.i64_in _ (by omega)).trans (by omega);have HP2:=ZZ (show P2=natOf (y.take (t+1)) by rw [HNX.out,hP2,hP1]);have HF2:=ZZ (show F1=10 ^ (t+1) by rw [hF1,HF.out,Nat.pow_succ,Nat.mul_comm])
     have HB2:=ZZ (show P2<1000000000 by
      rw [HP2.out];have h1:=natOf_lt (y.take (t+1)) (fun z hz=>HDG.out z (HSUB.out z (List.mem_of_mem_take hz)));have h3:(y.take (t+1)).length≤9:=by rw [List.length_take];omega
      have h4:10 ^ (y.take (t+1)).length≤10 ^ 9:=Nat.pow_le_pow_right (by omega) h3
      omega)
     have HB3:=ZZ (show F1≤1000000000 by
      rw [HF2.out];have h4:10 ^ (t+1)≤10 ^ 9:=Nat.pow_le_pow_right (by omega) (by omega)
      omega)
     have HZ0:=ZZ hz;clear hge hdig hdg hP1 hP2 hF1;go_wp2_with fail
     go_roundg (gk - 1)
     case measure=>have:=HZ0.out;omega
     case rel=>exact⟨t+1,P2,F1,by omega,by first|rfl|simp,rfl,rfl,HP2.out,HF2.out,HB2.out,HB3.out,rfl⟩
theorem natural_r (l:List UInt8) (hd:∀c ∈ l,isDig c=true) (hl:l.length≤1000000) (w:World):Calls Tryz.prog 58 #[.string ⟨l.toArray⟩] w fun e w'=>∃v,e=.returned v∧Wr w' v (natOf l)∧Ext w w':=
 (natural_f l hd hl w).mono fun e w' ⟨v,h1,h2,h3,_⟩=>⟨v,h1,h2,h3⟩
theorem dr_one:dr 1=[1]:=by
 unfold dr;rw [dig_pos B30_two (by omega),B30_eq,show 1 / 1073741824=0 from rfl,dig_zero]
theorem one_f (w:World):Calls Tryz.prog 59 #[] w fun e w'=>∃v,e=.returned v∧Wr w' v 1∧Ext w w'∧Fr w.heap.size v:=by
 go_enter Tryz.func59,Tryz.ntmps59
 go_wp2
 go_ret;refine⟨_,rfl,?_,ab _ _,fun b hb=>by cases hb;exact Nat.le_refl _⟩
 refine⟨some ⟨w.heap.size,0,none⟩,1,by rw [dr_one];rfl,by rw [dr_one];simp,?_⟩;rw [dr_one];exact cl_new w [i64n 1] 2
theorem ris1_iff (n:Nat):n=1↔(dr n).length=1∧(dr n).getD 0 0=1:=by
 constructor
 ·rintro rfl;rw [dr_one];simp
 ·rintro⟨h1,h2⟩
  have e:=num_dr n
  match h:dr n,h1,h2 with
  | [d],_,h2=>rw [h] at e;simp at h2 e;omega
theorem is1_r (va:Value) (n:Nat) (b:Bool) (hb:decide (n=1)=b) (w:World) (ha:Wr w va n):Calls Tryz.prog 60 #[va] w fun e w'=>e=.returned (.bool b)∧w=w':=by
 obtain⟨A,ca,rfl,hca,hA⟩:=ha;have hi:=ris1_iff n
 by_cases hl:(dr n).length=1
 ·obtain⟨ba,oa,rfl,hc⟩:=hA.i (by omega)
  have h0:w.cell? ⟨ba,oa,none⟩=some (.int .i64 (((dr n).getD 0 0:Nat):Int)):=by have h1:=hc 0 (by omega);rwa [Nat.add_zero] at h1
  clear hc hA
  have Hi:Hid (decide ((dr n).getD 0 0=1)=b):=by
   rw [←hb];show decide _=decide _;simp only [hi,hl,true_and]
  clear hi;generalize (dr n).getD 0 0=x at *;have hlt:((((dr n).length:Nat):Int) == 1)=true:=by simp;omega
  have hp:(0:Int)<((dr n).length:Nat):=by omega
  have hp':0<(dr n).length:=by omega
  generalize (dr n).length=k at *
  by_cases hx:x=1
  ·have ht:((x:Int) == 1)=true:=by simp;omega
   have Hb:Hid (b=true):=by have:=Hi.out;rw [←this];exact decide_eq_true hx
   clear hx hb hl
   go_enter Tryz.func60,Tryz.ntmps60
   go_wp2
   go_ret;rw [Hb.out]
   exact⟨rfl,rfl⟩
  ·have ht:((x:Int) == 1)=false:=by simp;omega
   have Hb:Hid (b=false):=by have:=Hi.out;rw [←this];exact decide_eq_false hx
   clear hx hb hl
   go_enter Tryz.func60,Tryz.ntmps60
   go_wp2
   go_ret;rw [Hb.out]
   exact⟨rfl,rfl⟩
 ·have hlt:((((dr n).length:Nat):Int) == 1)=false:=by simp;omega
  have Hb:Hid (b=false):=by rw [←hb];exact decide_eq_false (fun h=>hl (hi.1 h).1)
  clear hl hb hi;generalize (dr n).length=k at *
  go_enter Tryz.func60,Tryz.ntmps60
  go_wp2
  go_ret;rw [Hb.out]
  exact⟨rfl,rfl⟩
def sgnB (b:Bool):Int:=if b=true then -1 else 1
theorem minus_no {c:UInt8} {l:List UInt8} (h:c≠45):minusB (c :: l)=false∧restB (c :: l)=c :: l:=by
 have hne:¬(45:UInt8)=c:=fun e=>h e.symm;unfold minusB restB Lib.trimPrefix Lib.hasPrefix
 simp [List.isPrefixOf,hne]
theorem minus_yes (l:List UInt8):minusB (45 :: l)=true∧restB (45 :: l)=l:=by
 unfold minusB restB Lib.trimPrefix Lib.hasPrefix
 simp [List.isPrefixOf]
theorem signed_r (l:List UInt8) (hs:l.length≤9223372036854775807) (w:World):Calls Tryz.prog 54 #[.string ⟨l.toArray⟩] w fun e w'=>e=.returned (.tuple #[.string ⟨(restB l).toArray⟩,.int .i64 (sgnB (minusB l))])∧w'=w:=by
 rcases l with _|⟨c,l⟩
 ·have h1:minusB []=false:=rfl
  have h2:restB []=[]:=rfl;rw [h1,h2]
  go_enter Tryz.func54,Tryz.ntmps54
  go_wp2_with fail;refine bodyPost_ret (v:=.tuple #[.string ⟨#[]⟩,.int .i64 1]) (by simp [results,Tryz.f54]) rfl ?_
  exact⟨rfl,rfl⟩
 ·have hsz:(⟨(c :: l).toArray⟩:ByteArray).size=l.length+1:=by simp [ByteArray.size]
  have hz1:0<(⟨(c :: l).toArray⟩:ByteArray).size:=by rw [hsz];omega
  have hge:(⟨(c :: l).toArray⟩:ByteArray)[0]'hz1=c:=by rfl
  have hp:(0:Int)<((l.length+1:Nat):Int):=by omega
  have hx:(⟨(c :: l).toArray⟩:ByteArray).extract 1 (l.length+1)=⟨l.toArray⟩:=by apply ByteArray.ext;simp
  by_cases h:c=45
  ·subst h
   have ht:((((⟨(45 :: l).toArray⟩:ByteArray)[0]'hz1).toNat:Int) == 45)=true:=by rw [hge];rfl
   have HM:=ZZ (minus_yes l);clear hge
   go_enter Tryz.func54,Tryz.ntmps54
   go_wp2_with fail;refine bodyPost_ret (v:=.tuple #[.string ⟨l.toArray⟩,.int .i64 (-1)]) (by simp [results,Tryz.f54]) rfl ?_
   exact⟨by rw [HM.out.1,HM.out.2];rfl,rfl⟩
  ·have ht:((((⟨(c :: l).toArray⟩:ByteArray)[0]'hz1).toNat:Int) == 45)=false:=by
    rw [hge,beq_eq_false_iff_ne];intro e
    apply h
    apply UInt8.toNat_inj.1
    have e45:(45:UInt8).toNat=45:=rfl;omega
   have HM:=ZZ (minus_no (l:=l) h);clear hge h
   go_enter Tryz.func54,Tryz.ntmps54
   go_wp2_with fail;refine bodyPost_ret (v:=.tuple #[.string ⟨(c :: l).toArray⟩,.int .i64 1]) (by simp [results,Tryz.f54]) rfl ?_
   exact⟨by rw [HM.out.1,HM.out.2];rfl,rfl⟩
end Go.Proofs.YtkoaakefgacokaaGreatDoor
