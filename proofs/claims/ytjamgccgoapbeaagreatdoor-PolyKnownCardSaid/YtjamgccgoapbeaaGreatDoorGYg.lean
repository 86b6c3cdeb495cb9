/- Changes of sign in a chain; signs at a number and at the ends. Changes of sign in a chain: the walk; differences of counts. -/
import Derived.Test.YtjamgccgoapbeaaGreatDoorGYe
import Derived.Laws.StructEq
set_option linter.unusedVariables false
set_option maxRecDepth 100000
set_option maxHeartbeats 64000000
namespace Go.Proofs.YtjamgccgoapbeaaGreatDoor
open Go Go.RowKit
set_option linter.unusedSimpArgs false
theorem eqIn_arr {P:Program} (n:Nat) (t e:TypeId) (xs ys:Array Value) (w:World) (u:P.underlying t=some (.array 2 e)) (z:∀w,(sizeOf e).run P w=.ok 1 w) (x0 x1 y0 y1:Value) (b0 b1:Bool) (p0:(part e xs 0).run P w=.ok x0 w) (p1:(part e xs 1).run P w=.ok x1 w) (q0:(part e ys 0).run P w=.ok y0 w) (q1:(part e ys 1).run P w=.ok y1 w) (h0:(Op.equalIn n e x0 y0).run P w=.ok b0 w) (h1:(Op.equalIn n e x1 y1).run P w=.ok b1 w):(Op.equalIn (n+1) t (.agg xs) (.agg ys)).run P w=.ok (b0 && b1) w:=by
 simp only [Op.equalIn,Sem.run_bind,run_underlying u,Result.andThen_ok,z]
 rw [Std.Legacy.Range.forIn_eq_forIn_range']
 cases b0 <;> cases b1 <;> simp [List.range',Std.Legacy.Range.size,p0,p1,q0,q1,h0,h1,Result.andThen_ok,Sem.run_bind]
theorem eq_pair (a b c d:Int) (w:World):(Op.equalIn 10000 153 (.agg #[.int .i64 a,.int .i64 b]) (.agg #[.int .i64 c,.int .i64 d])).run Tryz.prog w=.ok (a == c && b == d) w:=by
 have u3:=Tryz.underlying3;have part0:∀(x y:Value),(part 3 #[x,y] 0).run Tryz.prog w=.ok x w:=by intro x y;go_simp
 have part1:∀(x y:Value),(part 3 #[x,y] 1).run Tryz.prog w=.ok y w:=by intro x y;go_simp
 exact eqIn_arr 9999 153 3 _ _ w Tryz.underlying153 Tryz.sizeOf3 _ _ _ _ _ _ (part0 _ _) (part1 _ _) (part0 _ _) (part1 _ _) (run_equalIn_int w 9998 _ .i64 .i64 _ _ u3) (run_equalIn_int w 9998 _ .i64 .i64 _ _ u3)
def SgnV (w:World) (fv:Value) (sg:List Rat→Int) (Pre:List Rat→Prop):Prop:=∃g lb,fv=.func (.func g) #[] lb∧(∀args W,(callFunc g args).run Tryz.prog W=.ok (.enter g args) W)∧∀W,Ext w W→∀v l,Pl W v l→Pre l→Calls Tryz.prog g (#[v] ++ lb) W fun e W'=>e=.returned (.int .i64 (sg l))∧Ext W W'
def flipsU:Int→List Int→Int
 | _,[]=>0
 | last,s :: l=>if s=0 then flipsU last l else (if (last=1∧s = -1)∨(last = -1∧s=1) then 1 else 0)+flipsU s l
def flipsF (c:List (List Rat)) (sg:List Rat→Int):Int:=flipsU 0 (c.map sg)
theorem flips_bound (last:Int) (l:List Int):0≤flipsU last l∧flipsU last l≤l.length:=by
 induction l generalizing last with
 | nil=>exact⟨Int.le_refl _,Int.le_refl _⟩
 | cons s l ih=>
  unfold flipsU;have h1:=ih last;have h2:=ih s;rw [List.length_cons]
  split
  ·omega
  ·split <;> omega
theorem at_c (vx:Value) (x:Rat) (w:World) (hx:Nm w vx x):Calls Tryz.prog 117 #[vx] w fun e w'=>e=.returned (.func (.func 160) #[] #[.pointer (some ⟨w.heap.size,0,none⟩)])∧w'=w.alloc (.cells vx.cells 35):=by
 obtain⟨s1,A1,k1,ca1,B1,l1,cb1,rfl⟩:=hx.form2;clear hx
 go_enter Tryz.func117,Tryz.ntmps117
 go_wp2_with fail;go_ret
 exact⟨rfl,rfl⟩
def atF (x:Rat) (l:List Rat):Int:=(evR l x).num.sign
theorem at1_p (M:Nat) (hM:0<M) (x:Rat) (bx:Bq M x) (B:Nat) (s1:Bool) (A1:Option Addr) (k1 ca1:Nat) (B1:Option Addr) (l1 cb1:Nat) (v:Value) (l:List Rat) (hl:l.length≤100000) (hK:l.length*(M+M+1)+1+M≤1099511627776) (hb:∀c ∈ l,Bq M c) (w:World) (hr:w.heap[B]?=some (.cells #[.bool s1,.slice A1 k1 ca1,.slice B1 l1 cb1] 35 (0,0))) (hx:Nm w (.agg #[.bool s1,.slice A1 k1 ca1,.slice B1 l1 cb1]) x) (hp:Pl w v l):Calls Tryz.prog 160 #[v,.pointer (some ⟨B,0,none⟩)] w fun e w'=>e=.returned (.int .i64 (atF x l))∧Ext w w':=by
 have HX:=ZZ hx;have HP:=ZZ hp;obtain⟨c,hc⟩:∃c,atF x l=c:=⟨_,rfl⟩;have HCC:=ZZ (show (evR l x).num.sign=c from hc);rw [hc];obtain⟨c0,c1,c2,-⟩:=aj hr;have HE:=ZZ (eval_p M hM v _ l x hl hK w hp hx hb bx);obtain⟨A,n,cp,rfl,-⟩:=hp.form;clear hx hp hr hc hl hK hb
 go_enter Tryz.func160,Tryz.ntmps160
 go_wp2_with fail;refine HE.out.mono ?_
 rintro e w3 ⟨v3,rfl,h3,k3⟩;have H3:=ZZ h3;have K3:=ZZ k3;clear h3 k3 HE;go_wp2_with fail;refine(sign_q' _ (evR l x) _ c HCC.out H3.out).mono ?_;rintro e w4 ⟨rfl,k4⟩;have K4:=ZZ (ak K3.out k4);clear k4;go_wp2_with fail;go_ret;exact⟨rfl,K4.out⟩
theorem endsV_c (b:Bool) (w:World):Calls Tryz.prog 80 #[.bool b] w fun e w'=>e=.returned (.func (.func 123) #[] #[.pointer (some ⟨w.heap.size,0,none⟩)])∧w'=w.alloc (.cells #[.bool b] 4):=by
 go_enter Tryz.func80,Tryz.ntmps80
 go_wp2_with fail;go_ret
 exact⟨rfl,rfl⟩
def endsF (minus:Bool) (l:List Rat):Int:=if minus && decide (l.length % 2=0) then -(topF l).num.sign else (topF l).num.sign
theorem ends1_p (b:Bool) (B:Nat) (v:Value) (l:List Rat) (hl:l.length≤100000) (hne:l≠[]) (w:World) (hr:w.heap[B]?=some (.cells #[.bool b] 4 (0,0))) (hp:Pl w v l):Calls Tryz.prog 123 #[v,.pointer (some ⟨B,0,none⟩)] w fun e w'=>e=.returned (.int .i64 (endsF b l))∧Ext w w':=by
 obtain⟨A,n1,cp,rfl,hn⟩:=hp.form;obtain⟨n,rfl⟩:∃n,n1=n+1:=⟨n1 - 1,by have:=List.length_pos_iff.2 hne;omega⟩;have HP:=ZZ hp;have HL:=ZZ hl;have HN:=ZZ hn;have HR:=ZZ hr;obtain⟨c,hc⟩:∃c,(topF l).num.sign=c:=⟨_,rfl⟩;have HCC:=ZZ hc;have hs:c = -1∨c=0∨c=1:=by rw [←hc];rcases Int.sign_trichotomy (topF l).num with h|h|h <;> omega
 have HE:=ZZ (show endsF b l=if b && decide ((n+1) % 2=0) then -c else c by unfold endsF;rw [hn,hc]);have q3:IntKind.i64.wrap (-c) = -c:=IntWalk.i64_in _ (by omega);clear hp hl hn hr hc hne hs
 go_enter Tryz.func123,Tryz.ntmps123
 go_wp2_with fail;refine(top_q _ l (by have:=HL.out;omega) n (topF l) HN.out (top_get HN.out) _ (by have h:=HP.out;rw [HN.out.symm] at h ⊢;exact h)).mono ?_
 rintro e w3 ⟨v3,rfl,h3,k3⟩;have H3:=ZZ h3;have K3:=ZZ k3;clear h3 k3;go_wp2_with fail;refine(sign_q' _ (topF l) _ c HCC.out H3.out).mono ?_;rintro e w4 ⟨rfl,k4⟩;have K4:=ZZ (ak K3.out k4);have c0:w4.cell? ⟨B,0,none⟩=some (.bool b):=by rw [cell_of_row _ _ _ _ _ _ ((K4.out.block _ (lt_of_block HR.out)).trans HR.out)];rfl
 clear k4
 cases b with
 | false=>
  go_wp2_with fail;go_ret
  exact⟨by rw [HE.out];rfl,K4.out⟩
 | true=>
  rcases Nat.mod_two_eq_zero_or_one (n+1) with h2|h2
  ·have z1:((n:Int)+1) % 2=0:=by omega
   have z2:((n:Int)+1).tmod 2=0:=by rw [Int.tmod_eq_emod_of_nonneg (by omega)];omega
   have HM:=ZZ h2;clear h2;go_wp2_with fail;go_ret;exact⟨by rw [HE.out,HM.out];rfl,K4.out⟩
  ·have z1:((n:Int)+1) % 2=1:=by omega
   have z2:((n:Int)+1).tmod 2=1:=by rw [Int.tmod_eq_emod_of_nonneg (by omega)];omega
   have HM:=ZZ h2;clear h2;go_wp2_with fail;go_ret;exact⟨by rw [HE.out,HM.out];rfl,K4.out⟩
end Go.Proofs.YtjamgccgoapbeaaGreatDoor
set_option linter.unusedVariables false
set_option maxRecDepth 100000
set_option maxHeartbeats 64000000
namespace Go.Proofs.YtjamgccgoapbeaaGreatDoor
open Go Go.RowKit
set_option linter.unusedSimpArgs false
theorem flips_p (v fv:Value) (c:List (List Rat)) (sg:List Rat→Int) (Pre:List Rat→Prop) (hn:c.length≤1000000) (hPre:∀l ∈ c,Pre l) (w:World) (h:PlL w v c) (hf:SgnV w fv sg Pre) (z:Int) (hz:flipsF c sg=z):Calls Tryz.prog 79 #[v,fv] w fun e w'=>e=.returned (.int .i64 z)∧Ext w w':=by
 obtain⟨A,cap,rfl,-,hA⟩:=h;obtain⟨gf,lb,rfl,hen,hcl⟩:=hf;obtain⟨n,hm⟩:∃n,c.length=n:=⟨_,rfl⟩;rw [hm];have HM:=ZZ hm;have HN:=ZZ hn;have HA:=ZZ hA;have HPR:=ZZ hPre;have HCL:=ZZ hcl;have HZ:=ZZ hz;clear hm hn hA hPre hcl hz
 go_enter Tryz.func79,Tryz.ntmps79
 go_wp2_with fail
 go_loopg [13,5,6] n (fun k i cn la wr=>∃(j:Nat) (a b:Int),Hid (j+k=n)∧i=.int .i64 (j:Int)∧cn=.int .i64 a∧la=.int .i64 b∧Hid (a+flipsU b ((c.drop j).map sg)=z)∧Hid (0≤a∧a≤j)∧Hid (Ext w wr))
 case atStart=>exact⟨0,0,0,ZZ (Nat.zero_add _),rfl,rfl,rfl,ZZ (by rw [←HZ.out];unfold flipsF;rw [Int.zero_add];rfl),ZZ ⟨Int.le_refl _,Int.le_refl _⟩,ZZ (ae _)⟩
 case round=>
  obtain⟨j,a,b,HJ,rfl,rfl,rfl,HU,HB,HE⟩:=hrel;rename World=>WR
  rcases Nat.eq_zero_or_pos gk with hz|hz
  ·subst hz
   obtain rfl:j=n:=HJ.out;have q1:decide ((j:Int)<(j:Int))=false:=decide_eq_false (Int.lt_irrefl _)
   have HZA:=ZZ (show a=z from by
    have h:=HU.out;rw [List.drop_eq_nil_of_le (Nat.le_of_eq HM.out)] at h;have h2:a+0=z:=h
    omega)
   go_wp2_with fail;go_ret
   exact⟨by rw [←HZA.out];rfl,HE.out⟩
  ·have hjn:j<n:=by have:=HJ.out;omega
   have hjl:j<c.length:=by rw [HM.out];exact hjn
   have q1:decide ((j:Int)<(n:Int))=true:=decide_eq_true (by omega);have q1':decide (j<n)=true:=decide_eq_true hjn;have q4:(j:Int)<(n:Int):=by omega
   have q5:(0:Int)≤(j:Int):=by omega
   rcases HA.out with ⟨-,h5⟩|⟨bb,o,rfl,ht⟩
   ·rw [h5] at hjl;simp at hjl
   obtain⟨l,hl⟩:∃l,c[j]?=some l:=⟨c[j]'hjl,List.getElem?_eq_getElem _⟩;obtain⟨u,c0,hu⟩:=ht j l hl;obtain⟨Au,ku,cu,eu,-⟩:=hu.form;subst eu
   replace c0:=ao HE.out c0
   obtain⟨s,hs⟩:∃s,sg l=s:=⟨_,rfl⟩
   have hd:c.drop j=l :: c.drop (j+1):=by
    obtain⟨hj2,e⟩:=List.getElem?_eq_some_iff.1 hl;rw [List.drop_eq_getElem_cons hj2,e]
   have HU2:=ZZ (show a+flipsU b (s :: (c.drop (j+1)).map sg)=z from by have h:=HU.out;rw [hd,List.map_cons,hs] at h;exact h);have HCA:=ZZ (HCL.out WR HE.out _ l (hu.mono HE.out) (HPR.out l (List.mem_of_getElem? hl)));rw [hs] at HCA;have HZ2:=ZZ hz;have HJN:=ZZ hjn;clear hu hl hz hjl ht hd hs hjn;go_wp2_with fail;refine HCA.out.mono ?_;rintro e w5 ⟨rfl,k5⟩;have K5:=ZZ (ak HE.out k5);clear k5 c0 HCA
   by_cases hs0:s=0
   ·subst hs0
    have z0:((0:Int) == 0)=true:=rfl;go_wp2_with fail
    go_roundg (gk - 1)
    case measure=>have:=HZ2.out;omega
    case rel=>exact⟨j+1,a,b,ZZ (by have:=HJ.out;have:=HZ2.out;omega),by have h1:=HN.out;have h2:=HM.out;have h3:=HJN.out;rw [IntWalk.wrap64_in _ ⟨by omega,by omega⟩];rfl,rfl,rfl,ZZ (by have h:=HU2.out;unfold flipsU at h;rw [if_pos rfl] at h;exact h),ZZ (by have h:=HB.out;omega),K5⟩
   ·have z0:(s == 0)=false:=beq_eq_false_iff_ne.2 hs0
    obtain⟨t1,ht1⟩:∃t,(b == 1 && s == -1)=t:=⟨_,rfl⟩;obtain⟨t2,ht2⟩:∃t,(b == -1 && s == 1)=t:=⟨_,rfl⟩;have e1:∀W,(Op.equalIn 10000 153 (.agg #[.int .i64 b,.int .i64 s]) (.agg #[.int .i64 1,.int .i64 (-1)])).run Tryz.prog W=.ok t1 W:=fun W=>by rw [←ht1];exact eq_pair b s 1 (-1) W
    have e2:∀W,(Op.equalIn 10000 153 (.agg #[.int .i64 b,.int .i64 s]) (.agg #[.int .i64 (-1),.int .i64 1])).run Tryz.prog W=.ok t2 W:=fun W=>by rw [←ht2];exact eq_pair b s (-1) 1 W
    have HST:=ZZ (show a+((if t1 || t2 then 1 else 0)+flipsU s ((c.drop (j+1)).map sg))=z from by
     have h:=HU2.out;unfold flipsU at h;rw [if_neg hs0] at h
     have key:(if t1 || t2 then (1:Int) else 0)=if (b=1∧s = -1)∨(b = -1∧s=1) then 1 else 0:=by
      rw [←ht1,←ht2]
      by_cases h1:b=1∧s = -1
      ·rw [if_pos (show (b=1∧s = -1)∨(b = -1∧s=1) from .inl h1),h1.1,h1.2];rfl
      ·by_cases h2:b = -1∧s=1
       ·rw [if_pos (show (b=1∧s = -1)∨(b = -1∧s=1) from .inr h2),h2.1,h2.2];rfl
       ·rw [if_neg (show ¬((b=1∧s = -1)∨(b = -1∧s=1)) from fun h=>h.elim h1 h2)]
        have f1:(b == 1 && s == -1)=false:=by
         rw [Bool.and_eq_false_iff,beq_eq_false_iff_ne,beq_eq_false_iff_ne]
         by_cases h:b=1
         ·exact .inr (fun e=>h1 ⟨h,e⟩)
         ·exact .inl h
        have f2:(b == -1 && s == 1)=false:=by
         rw [Bool.and_eq_false_iff,beq_eq_false_iff_ne,beq_eq_false_iff_ne]
         by_cases h:b = -1
         ·exact .inr (fun e=>h2 ⟨h,e⟩)
         ·exact .inl h
        rw [f1,f2];rfl
     rw [key];exact h)
    have hw:IntKind.i64.wrap (a+1)=a+1:=by have h:=HB.out;have h1:=HN.out;have h2:=HM.out;have h3:=HJN.out;exact IntWalk.i64_in _ (by omega)
    clear ht1 ht2 hs0
    cases t1 with
    | true=>
     go_wp2_with fail
     go_roundg (gk - 1)
     case measure=>have:=HZ2.out;omega
     case rel=>exact⟨j+1,a+1,s,ZZ (by have:=HJ.out;have:=HZ2.out;omega),by have h1:=HN.out;have h2:=HM.out;have h3:=HJN.out;rw [IntWalk.wrap64_in _ ⟨by omega,by omega⟩];rfl,rfl,rfl,ZZ (by have h:=HST.out;rw [Bool.true_or,if_pos rfl] at h;omega),ZZ (by have h:=HB.out;omega),ZZ (ak K5.out (ab _ _))⟩
    | false=>
     cases t2 with
     | true=>
      go_wp2_with fail
      go_roundg (gk - 1)
      case measure=>have:=HZ2.out;omega
      case rel=>exact⟨j+1,a+1,s,ZZ (by have:=HJ.out;have:=HZ2.out;omega),by have h1:=HN.out;have h2:=HM.out;have h3:=HJN.out;rw [IntWalk.wrap64_in _ ⟨by omega,by omega⟩];rfl,rfl,rfl,ZZ (by have h:=HST.out;rw [Bool.or_true,if_pos rfl] at h;omega),ZZ (by have h:=HB.out;omega),ZZ (ak K5.out (ab _ _))⟩
     | false=>
      go_wp2_with fail
      go_roundg (gk - 1)
      case measure=>have:=HZ2.out;omega
      case rel=>exact⟨j+1,a,s,ZZ (by have:=HJ.out;have:=HZ2.out;omega),by have h1:=HN.out;have h2:=HM.out;have h3:=HJN.out;rw [IntWalk.wrap64_in _ ⟨by omega,by omega⟩];rfl,rfl,rfl,ZZ (by have h:=HST.out;rw [Bool.or_false,if_neg (by decide)] at h;omega),ZZ (by have h:=HB.out;omega),ZZ (ak K5.out (ab _ _))⟩
end Go.Proofs.YtjamgccgoapbeaaGreatDoor
