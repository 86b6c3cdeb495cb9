/- The numbers on the way of PolyPlaces. -/
import Derived.Test.YtkoaakefgacokaaGreatDoorGOg
import Derived.Test.YtkoaakefgacokaaGreatDoorGZb
import Derived.Test.YtkoaakefgacokaaGreatDoorGZd
set_option linter.unusedVariables false
set_option linter.unusedSimpArgs false
set_option maxRecDepth 100000
set_option maxHeartbeats 64000000
namespace Go.Proofs.YtkoaakefgacokaaGreatDoor
theorem hf_signs {a:Nat} {p q:List Rat} (hp:HF a p) (e:∀i,∃s:Rat,(s=0∨s=1∨s = -1)∧co q i=s*co p i):HF a q:=by
 obtain⟨D,D0,Da,hD⟩:=hp.hd;refine HD.hf (D:=D) (a:=a) (fun i=>?_) D0 Da (Nat.le_refl _);obtain⟨m,m1,m2⟩:=hD i;obtain⟨s,hs,hc⟩:=e i
 rcases hs with rfl|rfl|rfl
 ·refine⟨0,?_,Nat.pow_pos (by decide)⟩
  rw [hc]
  show (0:Rat)*_*_=((0:Int):Rat)
  rw [show ((0:Int):Rat)=0 from rfl];grind
 ·exact⟨m,by rw [hc,←m1];grind,m2⟩
 ·exact⟨-m,by rw [hc,Rat.intCast_neg,←m1];grind,by rw [Int.natAbs_neg];exact m2⟩
theorem hf_along {a:Nat} {P:List Rat} (hp:HF a P):HF a (alongU [] [0,1] P).1∧HF a (alongU [] [0,1] P).2:=
 ⟨hf_signs hp fun i=>⟨sg4 i,sg4_vals i,(along_co P i).1⟩,hf_signs hp fun i=>⟨-sg4 (i+1),by
  rcases sg4_vals (i+1) with h|h|h <;> rw [h]
  ·exact .inl (by decide)
  ·exact .inr (.inr rfl)
  ·exact .inr (.inl (by decide)),(along_co P i).2⟩⟩
theorem factor_dv2 {a L:Nat} {f p:List Rat} (hp:HF a p) (mp:Mo p) (mf:Mo f) (h:Dv f p) (hp0:0<dgF p) (hL:dgF p≤L) (h63:L≤63):HF (a+23*L) f:=by
 have f0:=(h.dg hp0).1;have e:=quo_dv f0 h;obtain⟨mh,-⟩:=mp.quo hp0 mf (quo_trim _ _) e;exact factor_hf2 hp e mf mh hp0 hL h63
theorem own_g {a L M:Nat} {g p0:List Rat} (fp0:HF a p0) (mp0:Mo p0) (mg:Mo g) (hdv:Dv g p0) (dp0:0<dgF p0) (lp0:dgF p0≤L) (h63:L≤63) (hM:(a+23*L+6+9)*(2*L+2)+L*((a+23*L+6+9)*(2*L+2)+1)≤M):ownOk M g=true∧HF (a+23*L) g:=by
 have h0:=(hdv.dg dp0).1;have hL:=Nat.le_trans (hdv.dg dp0).2 lp0;have hp:=factor_dv2 fp0 mp0 mg hdv dp0 lp0 h63;have fq:=factor_dv2 fp0 mp0 (nextP_mo g) ((nextP_dv g).1.trans hdv) dp0 lp0 h63
 have hs:HF (a+23*L) (simpleF g):=by
  have e:∀x,evR g x=evR (nextP g) x*evR (simpleF g) x:=fun x=>quo_dv (nextP_pos h0) (nextP_dv g).1 x;have ms:=(mg.quo h0 (nextP_mo g) (simple_dg h0).2.1 e).1;exact factor_dv2 fp0 mp0 ms (Dv.trans ⟨nextP g,fun x=>by rw [e];grind⟩ hdv) dp0 lp0 h63
 refine⟨?_,hp⟩;generalize a+23*L=F at *;obtain⟨s0,st,sd⟩:=simple_dg h0;have hs':HF (F+6) (derivF (simpleF g)):=hs.deriv (v:=6) (pow6 h63 (by omega));have hp':HF (F+6) (derivF g):=hp.deriv (v:=6) (pow6 h63 hL);have dd:=dg_deriv g;have ds:=dg_deriv (simpleF g);have k1:=(com_hf (a:=F+6) (w:=7) (N:=L) (H:=(F+6+9)*(2*L+2)) (M:=M) (hp.mono (by omega)) (hp'.mono (by omega)) hL (by omega) (by omega) (Nat.le_refl _) hM).1
 have hbig:F+6≤(F+6+9)*(2*L+2):=by
  have:(F+6+9)*1≤(F+6+9)*(2*L+2):=Nat.mul_le_mul_left _ (by omega)
  omega
 have hbM:(F+6+9)*(2*L+2)+L*(F+1)≤M:=by
  have h1:L*(F+1)≤L*((F+6+9)*(2*L+2)+1):=Nat.mul_le_mul_left _ (by omega);omega
 have k2:=(div_hf (N:=L) (M:=M) hp fq (nextP_pos h0) hL (by omega) (by omega)).1;have k3:=chain_hf (a:=F+6) (w:=7) (N:=L) (H:=(F+6+9)*(2*L+2)) (M:=M) (hs.mono (by omega)) hs' (by omega) (by omega) (by omega) (Nat.le_refl _) hM;have hHM:(F+6+9)*(2*L+2)≤M:=by omega
 have k4:cB M (ownF g)=true:=by
  refine List.all_eq_true.2 fun l hl=>?_;obtain⟨f1,f2,f3⟩:=k3.2 l hl;rw [f1.sm hHM,Bool.true_and]
  have:dgF l=l.length:=by unfold dgF;rw [f3]
  exact decide_eq_true (by omega)
 have k5:(!(trimF (commonF g (derivF g))).isEmpty)=true:=by
  have:=trim_ne (nextP_pos h0)
  cases h9:trimF (commonF g (derivF g)) with
  | nil=>exact absurd h9 this
  | cons x l=>rfl
 unfold ownOk simpleOk;rw [hp.sm (by omega),k1,k5,show divOk M g (commonF g (derivF g))=true from k2,hs.sm (by omega),k3.1,k4];rfl
theorem times_g {a L M:Nat} {p0:List Rat} (hp0:HF a p0) (m0:Mo p0) (d0:0<dgF p0) (hL:dgF p0≤L) (h63:L≤63) (hM:(a+23*L+6+9)*(2*L+2)+L*((a+23*L+6+9)*(2*L+2)+1)≤M):∀(n:Nat) (p:List Rat),Mo p→Dv p p0→0<dgF p→dgF p≤n+1→timesB M n p=true
 | 0,p,_,_,_,h=>by
  unfold timesB;exact decide_eq_true h
 | n+1,p,mp,hd,h0,hn=>by
  unfold timesB
  by_cases h1:1<(trimF p).length
  ·rw [if_pos h1]
   have h1':1<dgF p:=h1;have dp:=(hd.dg d0).2;obtain⟨ho,fp⟩:=own_g hp0 m0 mp hd d0 hL h63 hM;have hne:=own_ne h0 ho;have dd:=dg_deriv p;have ql:=nextP_less h1';have hr:=times_g hp0 m0 d0 hL h63 hM n (nextP p) (nextP_mo p) ((nextP_dv p).1.trans hd) (nextP_pos h0) (by omega);have fd:=fp.deriv (v:=6) (by omega);have hc:=(com_hf (a:=a+23*L+6) (w:=7) (N:=L) (H:=(a+23*L+6+9)*(2*L+2)) (M:=M) (fp.mono (Nat.le_add_right _ _)) fd (by omega) (by omega) (by omega) (Nat.le_refl _) hM).1;unfold nextP at hr
   have hbig:a+23*L≤M:=by
    have:(a+23*L+6+9)*1≤(a+23*L+6+9)*(2*L+2):=Nat.mul_le_mul_left _ (by omega)
    omega
   rw [ho,hne,fp.sm hbig,hc,hr];rfl
  ·rw [if_neg h1]
theorem hf_up {a:Nat} {l:List Rat} (h:HF a l):HF a (mulF l [0,1]):=by
 obtain⟨D,n,h0,h1,h2⟩:=h;refine⟨D,fun i=>match i with|0=>0|i+1=>n i,h0,h1,fun i=>?_⟩;rw [co_up]
 cases i with
 | zero=>exact⟨by show (0:Rat)*_=_;rw [Rat.zero_mul];rfl,Nat.pow_pos (by decide)⟩
 | succ i=>exact h2 i
theorem along_small {M:Nat} (hM:5000000000≤M) {X Y:List Rat} {d:Rat} (hl:(X=[0,1]∧Y=[d])∨(Y=[0,1]∧X=[d])) (hb:Bq 112101 d):∀p:List Rat,p.length≤27→HF 112035 p→alongB M X Y p=true
 | [],_,_=>rfl
 | c :: p,hn,h=>by
  have hp:HF 112035 p:=by
   obtain⟨D,n,h0,h1,h2⟩:=h;exact⟨D,fun i=>n (i+1),h0,h1,fun i=>h2 (i+1)⟩
  have hn':p.length≤26:=by simp at hn;omega
  obtain⟨f1,f2⟩:=along_hf hl (n:=27) hp hb (by omega);have ih:=along_small hM hl hb p (by omega) hp
  have hlin:LineS X Y:=by
   rcases hl with ⟨a,b⟩|⟨a,b⟩
   ·exact .inl ⟨a,d,b⟩
   ·exact .inr ⟨a,d,b⟩
  have ht:=(along_top hlin p).1;obtain⟨t1,t2⟩:=along_tr X Y p
  have l1:(alongU X Y p).1.length≤26:=by
   have:dgF (alongU X Y p).1≤p.length:=dg_le fun i hi=>(ht i hi).1
   unfold dgF at this;rw [t1] at this;omega
  have l2:(alongU X Y p).2.length≤26:=by
   have:dgF (alongU X Y p).2≤p.length:=dg_le fun i hi=>(ht i hi).2
   unfold dgF at this;rw [t2] at this;omega
  have up:∀l:List Rat,HF (112035+27*(112101+2)) l→HF 4000000 (mulF l [0,1]):=fun l hl=>(hf_up hl).mono (by decide)
  have nb:∀l:List Rat,HF (112035+27*(112101+2)) l→HF 4000000 (mulF l [d]):=fun l hl=>
   ((hl.scale hb).eqv (fun i=>by rw [co_const,co_scaleF])).mono (by decide)
  have sb:∀l k:List Rat,HF 4000000 l→HF 4000000 k→smB M (subF l k)=true:=fun l k hl hk=>(hl.sub hk).sm (by omega);unfold alongB
  rw [ih,of_sm (l:=[c]) (fun x hx=>by
   have e:=List.mem_singleton.1 hx;rw [e];exact(h.bq c List.mem_cons_self).mono (by omega)),f1.sm (by omega),f2.sm (by omega),decide_eq_true (show (alongU X Y p).1.length≤100 by omega),decide_eq_true (show (alongU X Y p).2.length≤100 by omega)]
  rcases hl with ⟨rfl,rfl⟩|⟨rfl,rfl⟩
  ·rw [(up _ f1).sm (by omega),(nb _ f2).sm (by omega),sb _ _ (up _ f1) (nb _ f2),(nb _ f1).sm (by omega),(up _ f2).sm (by omega)];rfl
  ·rw [(nb _ f1).sm (by omega),(up _ f2).sm (by omega),sb _ _ (nb _ f1) (up _ f2),(up _ f1).sm (by omega),(nb _ f2).sm (by omega)];rfl
theorem along_lens {X Y P:List Rat} (hl:LineS X Y):(alongU X Y P).1.length≤P.length∧(alongU X Y P).2.length≤P.length:=by
 have ht:=(along_top hl P).1;obtain⟨t1,t2⟩:=along_tr X Y P;have d1:dgF (alongU X Y P).1≤P.length:=dg_le fun i hi=>(ht i hi).1;have d2:dgF (alongU X Y P).2≤P.length:=dg_le fun i hi=>(ht i hi).2;unfold dgF at d1 d2;rw [t1] at d1;rw [t2] at d2;exact⟨d1,d2⟩
theorem over_gcd {a L:Nat} {re im:List Rat} (h:0<dgF re∨0<dgF im) (f1:HF a re) (f2:HF a im) (l1:dgF re≤L) (l2:dgF im≤L):∃p0,HF a p0∧Mo p0∧0<dgF p0∧dgF p0≤L∧Dv (commonF re im) p0:=by
 obtain⟨⟨g1,g2,-⟩,-⟩:=gcd_gc re im
 rcases h with z|z
 ·exact⟨monicF re,f1.monic,mo_mon re,by rw [dg_mon];exact z,by rw [dg_mon];exact l1,g1.trans (mon_dv re).2⟩
 ·exact⟨monicF im,f2.monic,mo_mon im,by rw [dg_mon];exact z,by rw [dg_mon];exact l2,g2.trans (mon_dv im).2⟩
theorem side_ok {M:Nat} (hM:5000000000≤M) {P:List Rat} (h:Gd P) (hn:P.length≤27) (hf:HF 112035 P) {s:Side} {d:Rat} (hl:(s.1=[0,1]∧s.2.1=[d])∨(s.2.1=[0,1]∧s.1=[d])) (hb:Bq 112101 d):rectB1 M P s=true:=by
 obtain⟨X,Y,u,v⟩:=s
 replace hl:(X=[0,1]∧Y=[d])∨(Y=[0,1]∧X=[d]):=hl
 have hlin:LineS X Y:=by
  rcases hl with ⟨a,b⟩|⟨a,b⟩
  ·exact .inl ⟨a,d,b⟩
  ·exact .inr ⟨a,d,b⟩
 have hnz:=along_nz hlin h;have hal:=along_small hM hl hb P hn hf;obtain⟨f1,f2⟩:=along_hf hl (n:=27) hf hb hn;obtain⟨l1,l2⟩:=along_lens (P:=P) hlin;obtain⟨t1,t2⟩:=along_tr X Y P
 have b01:smB M [(0:Rat),1]=true:=of_sm (l:=[0,1]) (fun x hx=>by
   rcases List.mem_cons.1 hx with rfl|hx
   ·exact(bq_zero 4001 (by decide)).mono (by omega)
   ·rw [List.mem_singleton] at hx
    subst hx;exact(show Bq 64 (1:Rat) from bq_int 1 (by decide) (by decide)).mono (by omega))
 have bd:smB M [d]=true:=of_sm fun x hx=>by
  rw [List.mem_singleton] at hx;subst hx;exact hb.mono (by omega)
 have hOk:alongOk M X Y P=true:=by
  unfold alongOk;rw [hal]
  rcases hl with ⟨rfl,rfl⟩|⟨rfl,rfl⟩ <;> rw [b01,bd] <;> rfl
 show (alongOk M X Y P && decide ((alongU X Y P).1.length≤100) && decide ((alongU X Y P).2.length≤100) && comOk M (alongU X Y P).1 (alongU X Y P).2 && decide ((commonF (alongU X Y P).1 (alongU X Y P).2).length≤100) && smB M (commonF (alongU X Y P).1 (alongU X Y P).2) && ownOk M (commonF (alongU X Y P).1 (alongU X Y P).2) && chainOk M (alongU X Y P).2 (alongU X Y P).1 && cB M (chainF (alongU X Y P).2 (alongU X Y P).1))=true
 rw [hOk,Bool.true_and];clear hal hOk;generalize (alongU X Y P).1=re at *;generalize (alongU X Y P).2=im at *;have d1:dgF re≤27:=by have:=dg_len re;omega
 have d2:dgF im≤27:=by have:=dg_len im;omega
 obtain⟨p0,fp0,mp0,dp0,lp0,hdv⟩:=over_gcd hnz f1 f2 d1 d2;have mg:=(gcd_gc re im).2;obtain⟨k1,k2⟩:=own_g (M:=M) fp0 mp0 mg hdv dp0 lp0 (by decide) (Nat.le_trans (by decide) hM);have hg:dgF (commonF re im)≤27:=Nat.le_trans (hdv.dg dp0).2 lp0;have hgl:(commonF re im).length≤100:=by have:=mg.len;omega
 have k3:=(com_hf (w:=7) (N:=27) (H:=175809312) (M:=M) f1 f2 d1 d2 (by decide) (by decide) (by omega)).1;have k4:=chain_hf (w:=7) (N:=27) (H:=175809312) (M:=M) f2 f1 d2 d1 (by decide) (by decide) (by omega)
 have k5:cB M (chainF im re)=true:=by
  refine List.all_eq_true.2 fun l hl=>?_;obtain⟨f1,f2,f3⟩:=k4.2 l hl;rw [f1.sm (by omega),Bool.true_and]
  have:dgF l=l.length:=by unfold dgF;rw [f3]
  exact decide_eq_true (by omega)
 rw [decide_eq_true (show re.length≤100 by omega),decide_eq_true (show im.length≤100 by omega),k3,decide_eq_true hgl,k2.sm (by omega),k1,k4.1,k5];rfl
theorem rect_ok {M:Nat} (hM:5000000000≤M) {P:List Rat} (h:Gd P) (hn:P.length≤27) (hf:HF 112035 P) {lo hi dn up:Rat} (b1:Bq 112101 lo) (b2:Bq 112101 hi) (b3:Bq 112101 dn) (b4:Bq 112101 up):rectB M P (sidesF lo hi dn up)=true:=by
 refine List.all_eq_true.2 fun s hs=>?_
 rcases List.mem_cons.1 hs with rfl|hs
 ·exact side_ok hM h hn hf (.inl ⟨rfl,rfl⟩) b3
 rcases List.mem_cons.1 hs with rfl|hs
 ·exact side_ok hM h hn hf (.inr ⟨rfl,rfl⟩) b2
 rcases List.mem_cons.1 hs with rfl|hs
 ·exact side_ok hM h hn hf (.inl ⟨rfl,rfl⟩) b4
 rcases List.mem_cons.1 hs with rfl|hs
 ·exact side_ok hM h hn hf (.inr ⟨rfl,rfl⟩) b1
 ·cases hs
theorem routh_ok2 {M:Nat} (hM:5000000000≤M) {P:List Rat} (h:Gd P) (hl:P.length≤27) (hf:HF 112035 P):routhOk M P=true:=by
 obtain⟨d1,d2⟩:=parts_dg h;obtain⟨l1,l2⟩:=along_len P;have hb:=hf.bq
 have hal:alongOk M [] [0,1] P=true:=by
  unfold alongOk
  rw [alongB_ok (B:=112035) (M:=M) (by decide) (by omega) P (by omega) hb,of_sm (l:=[]) (fun x hx=>by cases hx),of_sm (l:=[0,1]) (fun x hx=>by
   rcases List.mem_cons.1 hx with rfl|hx
   ·exact(bq_zero 4001 (by decide)).mono (by omega)
   ·rw [List.mem_singleton] at hx
    subst hx;exact(show Bq 64 (1:Rat) from bq_int 1 (by decide) (by decide)).mono (by omega))]
  rfl
 obtain⟨fre,fim⟩:=hf_along hf;have hp0:=h.1;have hpl:=h.len;unfold routhOk;rw [h.2,hal,Bool.true_and];generalize (alongU [] [0,1] P).1=re at *;generalize (alongU [] [0,1] P).2=im at *;have hpos:0<dgF re∨0<dgF im:=by omega
 have hne:dgF re≠dgF im:=by omega
 have P2:=parts2 hpos;obtain⟨r1,r2,r3,r4,r5,r6,r7⟩:=routh_turn hpos hne _ _ rfl rfl;obtain⟨lR,lI⟩:=P2.lenR;have dre:dgF re≤27:=by omega
 have dim:dgF im≤27:=by omega
 have hg0:=P2.g0;have hg27:dgF (commonF re im)≤27:=by omega
 obtain⟨x1,x2,x3⟩:=times_fact ((commonF re im).length+1) (commonF re im) hg0 (by have:=dg_len (commonF re im);omega);have hx:timesF (commonF re im)=timesU ((commonF re im).length+1) (commonF re im):=rfl;rw [←hx] at x1 x2 x3;obtain⟨p0,fp0,mp0,dp0,lp0,hdv⟩:=over_gcd hpos fre fim dre dim;have fg:=factor_dv2 fp0 mp0 P2.mg hdv dp0 lp0 (by decide);have c1:=(com_hf (w:=7) (N:=27) (H:=6274968) (M:=M) fre fim dre dim (by decide) (by decide) (by omega)).1;have c2:timesOk M (commonF re im)=true:=times_g fp0 mp0 dp0 lp0 (by decide) (Nat.le_trans (by decide) hM) _ _ P2.mg hdv hg0 (by have:=dg_len (commonF re im);omega)
 have c3:(!(trimF (commonF re im)).isEmpty)=true:=by
  have:=trim_ne hg0
  cases h9:trimF (commonF re im) with
  | nil=>exact absurd h9 this
  | cons x l=>rfl
 obtain⟨c4,fR,-⟩:=div_hf (N:=27) (M:=3153774) fre fg hg0 dre (by decide) (by decide);obtain⟨c5,fI,-⟩:=div_hf (N:=27) (M:=3153774) fim fg hg0 dim (by decide) (by decide);obtain⟨c4',-,-⟩:=div_hf (N:=27) (M:=M) fre fg hg0 dre (by omega) (by omega);obtain⟨c5',-,-⟩:=div_hf (N:=27) (M:=M) fim fg hg0 dim (by omega) (by omega);have c6:=chain_hf (w:=7) (N:=27) (H:=176611848) (M:=M) fR fI (by omega) (by omega) (by decide) (by decide) (by omega);have c7:=chain_hf (w:=7) (N:=27) (H:=176611848) (M:=M) fI fR (by omega) (by omega) (by decide) (by decide) (by omega)
 have c8:neB (routhC re im (commonF re im))=true:=by
  refine List.all_eq_true.2 fun l hl=>?_;have h3:=dn_all r7 l hl
  have h4:dgF l≤27:=by
   unfold routhC at hl
   split at hl
   ·exact(c6.2 l hl).2.1
   ·exact(c7.2 l hl).2.1
  have h5:=h3.len;rw [decide_eq_true (show l.length≤100000 by omega),Bool.and_true];have h6:=h3.ne
  cases l with
  | nil=>exact absurd rfl h6
  | cons=>rfl
 unfold routhB;rw [decide_eq_true (show re.length≤90 by omega),decide_eq_true (show im.length≤90 by omega),c1,c2,c3,c4',c5',decide_eq_true (show -1000000≤timesF (commonF re im) by omega),decide_eq_true (show timesF (commonF re im)≤1000000 by omega),c6.1,c7.1,c8]
 split <;> rfl
theorem turnS_bnd {P:List Rat} (hn:P.length≤27) {s:Side} (h:LineS s.1 s.2.1):-200≤turnS P s∧turnS P s≤200:=by
 obtain⟨l1,l2⟩:=along_lens (P:=P) h;have c:=chain_len (alongU s.1 s.2.1 P).2 (alongU s.1 s.2.1 P).1;have s1:=steps_range s.2.2.1 (chainF (alongU s.1 s.2.1 P).2 (alongU s.1 s.2.1 P).1);have s2:=steps_range s.2.2.2 (chainF (alongU s.1 s.2.1 P).2 (alongU s.1 s.2.1 P).1);unfold turnS
 split <;> omega
theorem rectU_bnd {P:List Rat} (hn:P.length≤27):∀(l:List Side) (t K:Int),(∀s ∈ l,LineS s.1 s.2.1)→-K≤t→t≤K→-(K+200*(l.length:Int))≤(rectU P l t).1∧(rectU P l t).1≤K+200*(l.length:Int)
 | [],t,K,_,h1,h2=>by
  have e1:=Int.mul_tdiv_add_tmod t 4;have e2:=Int.tmod_lt_of_pos t (show (0:Int)<4 by decide);have e3:=Int.lt_tmod_of_pos t (show (0:Int)<4 by decide)
  show -(K+200*((0:Nat):Int))≤t.tdiv 4∧t.tdiv 4≤K+200*((0:Nat):Int)
  generalize t.tdiv 4=d at *;omega
 | s :: l,t,K,h,h1,h2=>by
  have hs:=turnS_bnd hn (h s List.mem_cons_self);have ih:=rectU_bnd hn l (t+turnS P s) (K+200) (fun x hx=>h x (List.mem_cons_of_mem _ hx)) (by omega) (by omega);rw [List.length_cons];unfold rectU
  split
  ·show -_≤(0:Int)∧(0:Int)≤_
   omega
  ·omega
theorem rectE_bnd {p:List Rat} (hn:p.length≤27) (x y u v:Rat):-1000≤(rectE p x y u v).1∧(rectE p x y u v).1≤1000:=by
 unfold rectE
 split
 ·exact⟨by show (-1000:Int)≤0;decide,by show (0:Int)≤1000;decide⟩
 split
 ·exact⟨by show (-1000:Int)≤0;decide,by show (0:Int)≤1000;decide⟩
 have:=rectU_bnd (P:=trimF p) (Nat.le_trans (trim_le p) hn) (sidesF (aq x y) (ar x y) (aq u v) (ar u v)) 0 0 sides_line (by decide) (by decide)
 have e:(((sidesF (aq x y) (ar x y) (aq u v) (ar u v)).length:Nat):Int)=4:=rfl;rw [e] at this;omega
theorem routh_bnd {p:List Rat} (hp:trimF p≠[]) (hn:p.length≤27):-1000≤(routhF p).1∧(routhF p).1≤1000∧0≤(routhF p).2∧(routhF p).2≤27:=by
 have h:=gd_trim hp;have hl:=trim_le p;have hp0:=h.1;have hpl:=h.len;obtain⟨d1,d2⟩:=parts_dg h;obtain⟨l1,l2⟩:=along_len (trimF p);unfold routhF;generalize trimF p=P at *;generalize (alongU [] [0,1] P).1=re at *;generalize (alongU [] [0,1] P).2=im at *;have hpos:0<dgF re∨0<dgF im:=by omega
 have hg0:=(parts2 hpos).g0;obtain⟨⟨g1,g2,-⟩,-⟩:=gcd_gc re im
 have hg:dgF (commonF re im)≤27:=by
  rcases hpos with z|z
  ·have:=(g1.dg z).2;have:=dg_len re;omega
  ·have:=(g2.dg z).2;have:=dg_len im;omega
 have hgl:(trimF (commonF re im)).length=dgF (commonF re im):=rfl;obtain⟨x1,x2,-⟩:=times_fact ((commonF re im).length+1) (commonF re im) hg0 (by have:=dg_len (commonF re im);omega);have hx:timesF (commonF re im)=timesU ((commonF re im).length+1) (commonF re im):=rfl;rw [←hx] at x1 x2;generalize commonF re im=g at *;have k1:=(div_len re g).1;have k2:=(div_len im g).1
 have hT:-200≤routhT re im g∧routhT re im g≤200:=by
  have hC:(routhC re im g).length≤200:=by
   unfold routhC
   split
   ·have:=chain_len (divF re g).1 (divF im g).1;omega
   ·have:=chain_len (divF im g).1 (divF re g).1;omega
  have:=turn_bound (routhC re im g)
  unfold routhT
  split <;> omega
 have t1:=tdiv2 (((trimF g).length:Int) - 1 - timesF g) 400 (by omega) (by omega);have t2:=tdiv2 (max ((divF re g).1.length:Int) (divF im g).1.length - 1 - routhT re im g) 400 (by omega) (by omega)
 show -1000≤routhG re im g (timesF g)∧routhG re im g (timesF g)≤1000∧0≤timesF g∧timesF g≤27
 unfold routhG;omega
theorem hf_14 {p:List Rat} (h:∀c ∈ p,Bq 4001 c) (hl:p.length≤14):HF 56015 p:=(hf_of_bq p h).mono (by omega)
theorem hf_two {p q:List Rat} (h:∀c ∈ p,Bq 4001 c) (hl:p.length≤14) (h':∀c ∈ q,Bq 4001 c) (hl':q.length≤14):HF 112035 (mulF p q):=((hf_14 h hl).mul (hf_14 h' hl') (v:=4) (by omega)).mono (by decide)
theorem bound_gen {a:Nat} {P:List Rat} (hf:HF a P):Bq (a+66) (boundF P):=by
 unfold boundF;exact((bq_most hf.pos hf.monic.bq _).add (show Bq 64 (1:Rat) from bq_int 1 (by decide) (by decide))).mono (by omega)
theorem bound_two {P:List Rat} (hf:HF 112035 P):Bq 112101 (boundF P):=(bound_gen hf).mono (by decide)
theorem bound_ok2 {M:Nat} (hM:112035≤M) {P:List Rat} (hf:HF 112035 P):boundOk M P=true:=by
 unfold boundOk;rw [hf.sm hM,hf.monic.sm hM];rfl
theorem mul_len27 {p q:List Rat} (hl:p.length≤14) (hl':q.length≤14):(mulF p q).length≤27:=by
 by_cases hp:trimF p=[]
 ·rw [mul_none (.inl hp)];decide
 by_cases hq:trimF q=[]
 ·rw [mul_none (.inr hq)];decide
 have h1:=dg_mul (r:=mulF p q) (fun x=>ev_mulF p q x) (List.length_pos_iff.2 hp:0<dgF p) (List.length_pos_iff.2 hq:0<dgF q);have h2:=(gd_mul hp hq).len;have h3:=dg_len p;have h4:=dg_len q;omega
open Go.RowKit
theorem boundx_m (M:Nat) (hM0:0<M) (hM:M≤5400000000) (v:Value) (p:List Rat) (hlp:p.length≤100000) (w:World) (hp:Pl w v p) (hb:boundOk M p=true) (D:Rat × Int) (hD:boundE p=D):Calls Tryz.prog 10 #[v] w fun e w'=>∃v',e=.returned (.tuple #[v',.int .i64 D.2])∧Nm w' v' D.1∧Ext w w':=by
 have HP:=ZZ hp;have HLP:=ZZ hlp;have HB:=ZZ hb;have HM0:=ZZ hM0;have HM:=ZZ hM;have HD:=ZZ hD;have e1:=ab w (.cells #[.bool false,.slice none 0 0,.slice none 0 0] 38);have hz:=heap_alloc_new w (.cells #[.bool false,.slice none 0 0,.slice none 0 0] 38);have HZ:=ZZ hz;have EW:=ZZ e1;have LE:=ZZ (Nat.le_refl w.heap.size);obtain⟨z,hz⟩:∃z,askF p=z:=⟨_,rfl⟩;have HA:=ZZ hz;clear hp hlp hb hD e1 hz hM0 hM
 go_enter Tryz.func10,Tryz.ntmps10
 go_wp2_with fail;refine(asked_p _ p (by have:=HLP.out;omega) _ (HP.out.mono EW.out) z HA.out).mono ?_
 rintro e w3 ⟨rfl,k3⟩;have E3:=ZZ (al EW.out k3);have hz3:=(k3.block _ (lt_of_block HZ.out)).trans HZ.out;have HZ3:=ZZ hz3;clear k3
 by_cases h0:z=0
 ·subst h0
  have HDE:=ZZ (show D=(boundF p,0) from by rw [←HD.out];unfold boundE;rw [if_pos HA.out]);clear hz3;go_wp2_with fail;refine(bound_p M HM0.out HM.out _ p HLP.out _ (HP.out.mono E3.out) (mon_ne HA.out) HB.out).mono ?_;rintro e w4 ⟨v4,rfl,h4,k4⟩;obtain⟨s4,A4,k4',ca4,B4,l4,cb4,rfl⟩:=h4.form2;have E4:=ZZ (al E3.out k4);have H4:=ZZ h4;have hz4:=(k4.block _ (lt_of_block HZ3.out)).trans HZ3.out;have HZ4:=ZZ hz4;obtain⟨z0,z1,z2,zf0,zf1,zf2⟩:=aj hz4;clear h4 k4 hz4;go_wp2_with fail;refine bodyPost_ret (v:=.tuple #[.agg #[.bool s4,.slice A4 k4' ca4,.slice B4 l4 cb4],.int .i64 0]) (by simp [results,Tryz.f10];go_simp) rfl ?_;rw [HDE.out];exact⟨_,rfl,H4.out.put3 HZ4.out,am E4.out LE.out _ _ _⟩
 ·have q1:(z != 0)=true:=by rw [bne_iff_ne];exact h0
  have q2:(z == 0)=false:=by rw [beq_eq_false_iff_ne];exact h0
  have HDE:=ZZ (show D=(0,z) from by rw [←HD.out];unfold boundE;rw [if_neg (by rw [HA.out];exact h0),HA.out]);obtain⟨z0,z1,z2,zf0,zf1,zf2⟩:=aj hz3;clear hz3 h0;go_wp2_with fail;refine bodyPost_ret (v:=.tuple #[.agg #[.bool false,.slice none 0 0,.slice none 0 0],.int .i64 z]) (by simp [results,Tryz.f10];go_simp) rfl ?_;rw [HDE.out];exact⟨_,rfl,(Nm.zero _).put3 HZ3.out,am E3.out LE.out _ _ _⟩
theorem stl_four (W:World) {t0 t1 t2 t3:List UInt8} (h0:t0.length≤maxLen) (h1:t1.length≤maxLen) (h2:t2.length≤maxLen) (h3:t3.length≤maxLen):Stl (W.alloc (.cells #[.string ⟨t0.toArray⟩,.string ⟨t1.toArray⟩,.string ⟨t2.toArray⟩,.string ⟨t3.toArray⟩] 23)) (.slice (some ⟨W.heap.size,0,none⟩) 4 4) [t0,t1,t2,t3]:=by
 have hr:=heap_alloc_new W (.cells #[.string ⟨t0.toArray⟩,.string ⟨t1.toArray⟩,.string ⟨t2.toArray⟩,.string ⟨t3.toArray⟩] 23);refine .inr ⟨W.heap.size,0,4,rfl,(show 4≤maxLen by decide),fun s hs=>?_,fun i s hi=>?_⟩
 ·rcases List.mem_cons.1 hs with rfl|hs
  ·exact h0
  ·rcases List.mem_cons.1 hs with rfl|hs
   ·exact h1
   ·rcases List.mem_cons.1 hs with rfl|hs
    ·exact h2
    ·rcases List.mem_cons.1 hs with rfl|hs
     ·exact h3
     ·cases hs
 ·rw [Nat.zero_add,cell_of_row _ _ _ _ _ _ hr]
  match i,hi with
  | 0,hi=>obtain rfl:=Option.some.inj hi;rfl
  | 1,hi=>obtain rfl:=Option.some.inj hi;rfl
  | 2,hi=>obtain rfl:=Option.some.inj hi;rfl
  | 3,hi=>obtain rfl:=Option.some.inj hi;rfl
theorem tri_four {w:World} {A:Option Addr} {c:Nat} {x y z u:Rat} (h:Pl w (.slice A 4 c) [x,y,z,u]):∃b o,A=some ⟨b,o,none⟩∧Tri w b o x∧Tri w b (o+3) y∧Tri w b (o+6) z∧Tri w b (o+9) u:=by
 obtain⟨A',c',e,hc,h3⟩:=h
 injection e with e1 e2 e3
 subst e1 e3
 rcases h3 with ⟨-,h4⟩|⟨b,o,h4,h5⟩
 ·cases h4
 ·exact⟨b,o,h4,h5 0 x rfl,h5 1 y rfl,h5 2 z rfl,h5 3 u rfl⟩
theorem Nw.ne {W0 W:World} {v:Value} {o:Obj} (h:Nw W0 W v o):v≠.pointer (some ⟨W.heap.size,0,none⟩):=by
 obtain⟨g,rfl,-,h2⟩:=h;intro e
 have:g=W.heap.size:=by injection e with e;injection e with e;injection e
 exact Nat.lt_irrefl _ (this ▸ lt_of_block h2)
theorem routh_ok3 {M:Nat} (hM:5000000000≤M) {P:List Rat} (hl:P.length≤27) (hf:HF 112035 P) (h:askF P=0):routhOk M P=true:=by
 have t:=(ask_zero h).2;have k:=routh_ok2 hM (gd_trim t) (Nat.le_trans (trim_le P) hl) hf.trim;unfold routhOk at k ⊢;rw [trim_trim] at k;exact k
theorem rect_ok3 {M:Nat} (hM:5000000000≤M) {P:List Rat} (hl:P.length≤27) (hf:HF 112035 P) (h:askF P=0) {x y u v:Rat} (b1:Bq 112101 x) (b2:Bq 112101 y) (b3:Bq 112101 u) (b4:Bq 112101 v):rectB M (trimF P) (sidesF (aq x y) (ar x y) (aq u v) (ar u v))=true:=
 rect_ok hM (gd_trim (ask_zero h).2) (Nat.le_trans (trim_le P) hl) hf.trim (bq_minQ b1 b2) (bq_maxQ b1 b2) (bq_minQ b3 b4) (bq_maxQ b3 b4)
theorem routh_cases {p q:List Rat} (lp:p.length≤14) (lq:q.length≤14):∃i j e k l f r x g:Int,routhE p=(i,j,e)∧routhE q=(k,l,f)∧routhE (mulF p q)=(r,x,g)∧(((e≠0∨f≠0)∧g=8)∨(e=0∧f=0∧g=0∧IntKind.i64.wrap (i+k)=r∧IntKind.i64.wrap (j+l)=x∧askF p=0∧askF q=0∧askF (mulF p q)=0)):=by
 have lm:=mul_len27 lp lq;have no:∀P:List Rat,askF P≠0→routhE P=(0,0,askF P):=fun P h=>by unfold routhE;rw [if_neg h]
 have yes:∀P:List Rat,askF P=0→routhE P=((routhF P).1,(routhF P).2,0):=fun P h=>by unfold routhE;rw [if_pos h]
 have e8:trimF p=[]∨trimF q=[]→askF (mulF p q)=8:=fun h=>by
  have hm:=mul_none h
  rcases ask_two (p:=mulF p q) (by omega) with ⟨-,k⟩|⟨k,-⟩
  ·exact k
  ·exact absurd (by rw [hm];rfl) k
 rcases ask_two (p:=p) (by omega) with ⟨p1,p2⟩|⟨p1,p2⟩
 ·refine⟨0,0,8,_,_,_,0,0,8,by rw [no p (by rw [p2];decide),p2],rfl,by rw [no _ (by rw [e8 (.inl p1)];decide),e8 (.inl p1)],.inl ⟨.inl (by decide),rfl⟩⟩
 rcases ask_two (p:=q) (by omega) with ⟨q1,q2⟩|⟨q1,q2⟩
 ·refine⟨_,_,_,0,0,8,0,0,8,rfl,by rw [no q (by rw [q2];decide),q2],by rw [no _ (by rw [e8 (.inr q1)];decide),e8 (.inr q1)],.inl ⟨.inr (by decide),rfl⟩⟩
 have hm:askF (mulF p q)=0:=by
  rcases ask_two (p:=mulF p q) (by omega) with ⟨k,-⟩|⟨-,k⟩
  ·have:=(gd_mul p1 q1).1
   exact absurd k (trim_ne this)
  ·exact k
 have h:=places_routh p1 q1;have b1:=routh_bnd p1 (by omega);have b2:=routh_bnd q1 (by omega);refine⟨_,_,0,_,_,0,_,_,0,yes p p2,yes q q2,yes _ hm,.inr ⟨rfl,rfl,rfl,?_,?_,p2,q2,hm⟩⟩
 ·rw [h];exact IntWalk.i64_in _ (by omega)
 ·rw [h];exact IntWalk.i64_in _ (by omega)
theorem rect_cases {p q:List Rat} (lp:p.length≤14) (lq:q.length≤14) (hp:askF p=0) (hq:askF q=0) (hm:askF (mulF p q)=0) (x y u v:Rat):∃i e k f r g:Int,rectE p x y u v=(i,e)∧rectE q x y u v=(k,f)∧rectE (mulF p q) x y u v=(r,g)∧((e=0∧f=0∧g=0∧IntKind.i64.wrap (i+k)=r)∨(((e == 0) && (f == 0))=false∧((e == 120) || (f == 120))=(g == 120))):=by
 obtain⟨i,k,r,e,f,g,h1,h2,h3,h4,h5⟩:=places_rect hp hq hm x y u v
 have b1:-1000≤i∧i≤1000:=by
  have h:=rectE_bnd (p:=p) (by omega) x y u v;rw [h1] at h;exact h
 have b2:-1000≤k∧k≤1000:=by
  have h:=rectE_bnd (p:=q) (by omega) x y u v;rw [h2] at h;exact h
 refine⟨i,e,k,f,r,g,h1,h2,h3,?_⟩
 by_cases he:e=0
 ·by_cases hf:f=0
  ·obtain⟨g0,rk⟩:=h4 he hf
   exact .inl ⟨he,hf,g0,by rw [rk];exact IntWalk.i64_in _ (by omega)⟩
  ·refine .inr ⟨by rw [beq_eq_false_iff_ne.2 hf,Bool.and_false],?_⟩
   rw [Bool.eq_iff_iff,Bool.or_eq_true,beq_iff_eq,beq_iff_eq,beq_iff_eq];exact h5
 ·refine .inr ⟨by rw [beq_eq_false_iff_ne.2 he,Bool.false_and],?_⟩
  rw [Bool.eq_iff_iff,Bool.or_eq_true,beq_iff_eq,beq_iff_eq,beq_iff_eq];exact h5
end Go.Proofs.YtkoaakefgacokaaGreatDoor
