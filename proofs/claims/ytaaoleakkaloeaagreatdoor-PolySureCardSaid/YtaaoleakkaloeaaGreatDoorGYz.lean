/- What the rows' lists give at the seat of the Poly laws: the table of powers of ten. What PolyDivisors looks at: powers and products of parts, and how great their numbers are. Arrays of three strings as arguments. What PolyIsolates needs of the spans of roots. What the laws on roots need beside the contracts: lists of at most 14 numbers, Bound. Where nothing is counted a polynomial keeps away from 0; a single root lies on a short piece; a short piece of any chain. -/
import Derived.Test.YtaaoleakkaloeaaGreatDoorGYy
import Derived.Test.YtaaoleakkaloeaaGreatDoorGVx
import Derived.Test.YtaaoleakkaloeaaGreatDoorCards
import Derived.Test.YtaaoleakkaloeaaGreatDoorTie
import Derived.WalkKit
import Derived.ProofKit
import Derived.OpenShut
import Derived.MakeChecks
import Derived.Lay
import Derived.Deep.DeepHandedRow
import Derived.Lib.LaidU8
import Derived.Test.YtaaoleakkaloeaaGreatDoorGYw
import Derived.Test.YtaaoleakkaloeaaGreatDoorGJm
import Derived.Test.YtaaoleakkaloeaaGreatDoorGYi
set_option linter.unusedVariables false
set_option maxRecDepth 100000
set_option maxHeartbeats 64000000
namespace Go.Proofs.YtaaoleakkaloeaaGreatDoor
open Go.ChangeShapes Go.WideShapes Go.ChangeAt Go.RowKit
theorem tensP {W:World} (h:Lib.VarReads Tryz.prog W "internal/strconv.uint64pow10" Rows.laid_internal_strconv_uint64pow10):Tens W:=by
 obtain⟨g,t,cs,fuel,p,hg,ht,hv,hd⟩:=h;have hg':Tryz.prog.globalNamed "internal/strconv.uint64pow10"=some 3:=by kernel_rfl
 obtain rfl:=Option.some.inj (hg'.symm.trans hg);have ht':(Tryz.prog.globals[(3:Nat)]?).map (·.type)=some 190:=by kernel_rfl
 obtain rfl:=Option.some.inj (ht'.symm.trans ht);have e:(Rows.laid_internal_strconv_uint64pow10:DataW Unit)=Lib.tabData .u64 Lib.pow10Tab:=by kernel_rfl
 rw [e] at hd;unfold Tens Lib.TabIs;rw [hv,←Lib.cells_of_tab Tryz.underlying190 Tryz.underlying98 (by kernel_rfl) (by kernel_rfl) hd]
theorem tensP_of {W:World} {l:List (String × DataW Unit)} (h:laidMetH Tryz.prog l W) (hp:(l.all fun x=>x.2.handleName?.isNone)=true) (h1:("internal/strconv.uint64pow10",Rows.laid_internal_strconv_uint64pow10) ∈ l):Tens W:=by
 rw [MakeChecks.laidMetH_plain _ _ _ hp] at h;exact tensP (Lib.laidMet.reads h h1)
end Go.Proofs.YtaaoleakkaloeaaGreatDoor
set_option linter.unusedVariables false
set_option maxRecDepth 100000
set_option maxHeartbeats 64000000
namespace Go.Proofs.YtaaoleakkaloeaaGreatDoor
set_option linter.unusedSimpArgs false
def pwrF (P:List Rat):Nat→List Rat
 | 0=>[1]
 | k+1=>mulF (pwrF P k) P
theorem ev_pwrF (P:List Rat) (x:Rat):∀k,evR (pwrF P k) x=evR P x ^ k
 | 0=>by rw [Rat.pow_zero];exact ev_one x
 | k+1=>by
  show evR (mulF (pwrF P k) P) x=_
  rw [ev_mulF,ev_pwrF P x k,Rat.pow_succ]
end Go.Proofs.YtaaoleakkaloeaaGreatDoor
set_option linter.unusedVariables false
set_option maxRecDepth 100000
set_option maxHeartbeats 64000000
namespace Go.Proofs.YtaaoleakkaloeaaGreatDoor
open Go Go.ChangeShapes Go.WideShapes Go.ChangeAt Go.RowKit
theorem shut_three {H:Type} {enc:TypeId × Value→H} {W:World} {T E:TypeId} {s0 s1 s2:ByteArray} (ht:Tryz.prog.underlying T=some (.array 3 E)) (he:Tryz.prog.underlying E=some .string) (hc:Tryz.prog.cellsOf E=1) (hcT:Tryz.prog.cellsOf T=3) (h0:s0.size≤maxLen) (h1:s1.size≤maxLen) (h2:s2.size≤maxLen) (sp:Nat→Bool):DataW.Trod enc Tryz.prog W 0 sp true T (.agg #[.string s0,.string s1,.string s2]) (.agg [.lit (.string s0.data.toList),.lit (.string s1.data.toList),.lit (.string s2.data.toList)]) []:=by
 refine⟨2,?_⟩;have r2:List.range 3=[0,1,2]:=rfl
 have e1:∀s:ByteArray,s.size≤maxLen→DataW.trod enc Tryz.prog W 0 sp true 1 E [.string s]=some (.lit (.string s.data.toList),[]):=fun s hs=>by
  simp [DataW.trod,he,hs]
 unfold DataW.trod;rw [ht]
 simp [r2,hc,hcT,Value.cells,e1 s0 h0,e1 s1 h1,e1 s2 h2]
theorem open_three {H:Type} {enc:TypeId × Value→H} {W:World} {b0:Nat} {T E:TypeId} {v:Value} {d:DataW H} {ps:List MemPlace} (ht:Tryz.prog.underlying T=some (.array 3 E)) (he:Tryz.prog.underlying E=some .string) (hc:Tryz.prog.cellsOf E=1) (hcT:Tryz.prog.cellsOf T=3) (hv:Value.okWide Tryz.prog W .any b0 T v) (h:DataW.Trod enc Tryz.prog W 0 (fun _=>true) true T v d ps):∃s0 s1 s2:List UInt8,v=.agg #[.string ⟨s0.toArray⟩,.string ⟨s1.toArray⟩,.string ⟨s2.toArray⟩]∧s0.length≤maxLen∧s1.length≤maxLen∧s2.length≤maxLen∧∀(W':World) (sp:Nat→Bool),DataW.Trod enc Tryz.prog W' 0 sp true T v d ps:=by
 simp only [Value.okWide,ht] at hv
 obtain⟨cs,rfl,hs,-⟩:=hv;rw [hcT] at hs
 obtain⟨c0,c1,c2,rfl⟩:∃c0 c1 c2,cs=#[c0,c1,c2]:=by
  match cs,hs with
  | ⟨[c0,c1,c2]⟩,_=>exact⟨c0,c1,c2,rfl⟩
 obtain⟨fuel,hf⟩:=h;obtain⟨xs,m,rfl,hx,-,hl,hi⟩:=DataW.trod_array ht hf;have x0:=hi 0 (by decide);have x1:=hi 1 (by decide);have x2:=hi 2 (by decide);rw [hc] at x0 x1 x2
 match xs,hl with
 | [y0,y1,y2],_=>
  obtain⟨s,hs0,rfl,hm0⟩:=DataW.trod_string he (show DataW.trod enc Tryz.prog W 0 (fun _=>true) true m E [c0]=some y0 from x0);obtain⟨t,hs1,rfl,hm1⟩:=DataW.trod_string he (show DataW.trod enc Tryz.prog W 0 (fun _=>true) true m E [c1]=some y1 from x1);obtain⟨r,hs2,rfl,hm2⟩:=DataW.trod_string he (show DataW.trod enc Tryz.prog W 0 (fun _=>true) true m E [c2]=some y2 from x2);obtain rfl:c0=.string s:=by injection hs0
  obtain rfl:c1=.string t:=by injection hs1
  obtain rfl:c2=.string r:=by injection hs2
  simp only [Prod.mk.injEq] at hx
  obtain⟨rfl,rfl⟩:=hx;refine⟨s.data.toList,t.data.toList,r.data.toList,by cases s;cases t;cases r;rfl,by rw [Array.length_toList];exact hm0,by rw [Array.length_toList];exact hm1,by rw [Array.length_toList];exact hm2,fun W' sp=>?_⟩;exact shut_three ht he hc hcT hm0 hm1 hm2 sp
end Go.Proofs.YtaaoleakkaloeaaGreatDoor
set_option linter.unusedVariables false
set_option maxRecDepth 100000
set_option maxHeartbeats 64000000
namespace Go.Proofs.YtaaoleakkaloeaaGreatDoor
set_option linter.unusedSimpArgs false
theorem iso_gr {p:List Rat} {c:List (List Rat)} {width:Rat} {b:Nat}:∀(n j:Nat) (lo hi:Rat),Gr b j lo→Gr b j hi→∀a ∈ isoU p c width n lo hi,∃i,i≤j+n∧Gr b i a.1∧Gr b i a.2
 | 0,j,lo,hi,_,_,a,h=>by cases h
 | n+1,j,lo,hi,g1,g2,a,ha=>by
  rw [iso_succ] at ha
  split at ha
  ·cases ha
  ·split at ha
   ·rw [List.mem_singleton.1 ha]
    split
    ·exact⟨j,by omega,g2,g2⟩
    ·exact⟨j,by omega,g1,g2⟩
   ·rcases List.mem_append.1 ha with g|g
    ·obtain⟨i,h1,h2⟩:=iso_gr n (j+1) _ _ g1.up (g1.mid g2) a g
     exact⟨i,by omega,h2⟩
    ·obtain⟨i,h1,h2⟩:=iso_gr n (j+1) _ _ (g1.mid g2) g2.up a g
     exact⟨i,by omega,h2⟩
theorem width_nat (m:Nat):powF (-(m:Int))*tw m=1:=by
 unfold powF
 rcases Nat.eq_zero_or_pos m with h|h
 ·subst h
  rw [if_neg (by omega)]
  show pw2 0*tw 0=1
  rw [pw_tw]
  have:tw 0=1:=rfl
  rw [this];grind
 ·rw [if_pos (by omega),Int.natAbs_neg,Int.natAbs_natCast,pw_tw]
  have h1:=tw_pos m
  have h2:tw m≠0:=by
   generalize tw m=v at *
   grind
  rw [Rat.mul_comm];exact inv_ne h2
theorem width_mono {a b:Int} (h0:0≤a) (h:a≤b) (hb:b≤1000):widthF b≤widthF a:=by
 obtain⟨m,rfl⟩:∃m:Nat,a=(m:Int):=⟨a.toNat,by omega⟩;obtain⟨n,rfl⟩:∃n:Nat,b=(n:Int):=⟨b.toNat,by omega⟩;unfold widthF;rw [show min (max (n:Int) 0) 1000=(n:Int) by omega,show min (max (m:Int) 0) 1000=(m:Int) by omega];have h1:=width_nat m;have h2:=width_nat n;have h3:=tw_mono (show m≤n by omega);have h4:=tw_pos m;generalize tw m=u at *;generalize tw n=v at *;generalize powF (-(m:Int))=x at *;generalize powF (-(n:Int))=y at *
 rcases lt_or_le' x y with g|g
 ·exfalso
  have e1:=Rat.mul_pos (show 0<y - x by grind) (show 0<u by grind)
  have hy:0<y:=by
   rcases lt_or_le' 0 y with k|k
   ·exact k
   ·have:=Rat.mul_nonneg (show 0≤-y by grind) (show 0≤v by grind)
    grind
  have e2:=Rat.mul_nonneg (show 0≤y by grind) (show 0≤v - u by grind)
  grind
 ·exact g
structure IsoF (M:Nat) (p:List Rat) (L L':List (Rat × Rat)):Prop where
 same:L'.length=L.length
 cnt:((L.length:Nat):Int)=betweenF (ownF p) (-(boundF p)) (boundF p)
 small:L.length≤10000
 one:∀(i:Nat) (a:Rat × Rat),L[i]?=some a→a.1≤a.2∧Bq M a.1∧Bq M a.2∧((a.1=a.2∧evR p a.2=0)∨(a.1≠a.2∧betweenF (ownF p) a.1 a.2=1∧evR p a.1≠0∧evR p a.2≠0))
 sort:∀(i:Nat) (a b:Rat × Rat),L[i]?=some a→L[i+1]?=some b→a.2≤b.1
 fine:∀(i:Nat) (a b:Rat × Rat),L[i]?=some a→L'[i]?=some b→a.1≤b.1∧b.2≤a.2∧Bq M b.1∧Bq M b.2
theorem iso_facts {M:Nat} (hM:1739600393≤M) {p:List Rat} (hb:∀x ∈ p,Bq 4001 x) (hl:p.length≤60) (hz:askF p=0) {b1 b2:Int} (h0:0≤b1) (h1:b1≤b2) (h2:b2≤1000):IsoF M p (rootL p b1) (rootL p b2):=by
 obtain⟨K,i1⟩:=iso_all hM hb hz b1;obtain⟨K',i2⟩:=iso_all hM hb hz b2;obtain rfl:K=K':=i1.st.symm.trans i2.st;have hw:=width_mono h0 h1 h2;have e1:rootL p b1=isoU p (ownF p) (widthF b1) (deepF p+1) (-(tw K)) (tw K):=by unfold rootL;rw [i1.st,i1.pk]
 have e2:rootL p b2=isoU p (ownF p) (widthF b2) (deepF p+1) (-(tw K)) (tw K):=by unfold rootL;rw [i1.st,i1.pk]
 have c1:=iso_cnt i1.pos (widthF b1) _ _ _ i1.le i1.iso;have c2:=iso_cnt i1.pos (widthF b2) _ _ _ i1.le i2.iso;have hdeep:=i1.deep
 have hgr:∀(w:Rat) (a:Rat × Rat),a ∈ isoU p (ownF p) w (deepF p+1) (-(tw K)) (tw K)→Bq M a.1∧Bq M a.2:=fun w a ha=>by
  obtain⟨i,hi,g1,g2⟩:=iso_gr (deepF p+1) 0 _ _ i1.lo i1.hi a ha;exact⟨g1.bq.mono (by omega),g2.bq.mono (by omega)⟩
 have hfl:((isoU p (ownF p) (widthF b1) (deepF p+1) (-(tw K)) (tw K)).length)≤10000:=by
  have h2:betweenF (ownF p) (-(tw K)) (tw K)≤((ownF p).map (atF (-(tw K)))).length:=by
   have f1:=flips_bound 0 ((ownF p).map (atF (-(tw K))));have f2:=flips_bound 0 ((ownF p).map (atF (tw K)));have e:betweenF (ownF p) (-(tw K)) (tw K)=flipsU 0 ((ownF p).map (atF (-(tw K)))) - flipsU 0 ((ownF p).map (atF (tw K))):=rfl;omega
  rw [List.length_map] at h2;have h3:=own_len p;omega
 rw [e1,e2];refine⟨by omega,?_,hfl,fun i a ha=>?_,fun i a b ha hb'=>?_,fun i a b ha hb'=>?_⟩
 ·rw [c1,bound_all i1.pos i1.big]
 ·have hm:=List.mem_of_getElem? ha
  obtain⟨g1,g2⟩:=hgr _ a hm;refine⟨(iso_in _ _ _ i1.le a hm).2.1,g1,g2,?_⟩
  rcases iso_one _ _ _ a hm with h|⟨h,h'⟩
  ·exact .inl h
  ·refine .inr ⟨fun e=>?_,h,h'⟩
   rw [e,between_v] at h;omega
 ·have hs:=iso_sort (p:=p) (c:=ownF p) (width:=widthF b1) (deepF p+1) _ _ i1.le
  obtain⟨l1,r1⟩:=List.getElem?_eq_some_iff.1 ha;obtain⟨l2,r2⟩:=List.getElem?_eq_some_iff.1 hb'
  have:=List.pairwise_iff_getElem.1 hs i (i+1) l1 l2 (by omega)
  rw [r1,r2] at this;exact this
 ·obtain⟨f1,f2⟩:=iso_fine i1.pos hw _ _ _ i1.le i2.iso i a b ha hb'
  obtain⟨g1,g2⟩:=hgr _ b (List.mem_of_getElem? hb');exact⟨f1,f2,g1,g2⟩
end Go.Proofs.YtaaoleakkaloeaaGreatDoor
set_option linter.unusedVariables false
set_option maxRecDepth 100000
set_option maxHeartbeats 64000000
namespace Go.Proofs.YtaaoleakkaloeaaGreatDoor
open Go Go.RowKit
set_option linter.unusedSimpArgs false
theorem list_14 (v:Value) (ls:List (List UInt8)) (w:World) (h:Stl w v ls) (hn:ls.length≤14):Calls Tryz.prog 8 #[v] w fun e w'=>∃va vx,e=.returned (.tuple #[va,vx])∧Px w' va (listF ls) 14 4001∧Ext w w':=by
 refine(list_n v ls (by omega) w h).mono ?_;rintro e w' ⟨va,vx,rfl,hp,hr,k⟩;refine⟨va,vx,rfl,⟨hp,by unfold listF;rw [List.length_map];exact hn,fun x hx=>?_⟩,k⟩;unfold listF at hx;obtain⟨s,-,rfl⟩:=List.mem_map.1 hx;exact aw s
end Go.Proofs.YtaaoleakkaloeaaGreatDoor
set_option linter.unusedVariables false
set_option maxRecDepth 100000
set_option maxHeartbeats 64000000
namespace Go.Proofs.YtaaoleakkaloeaaGreatDoor
set_option linter.unusedSimpArgs false
set_option maxHeartbeats 2000000
theorem min_ex {a b:Rat} (ha:0<a) (hb:0<b):∃c,0<c∧c≤a∧c≤b:=by
 rcases Rat.le_total (a:=a) (b:=b) with h|h
 ·exact⟨a,ha,Rat.le_refl,h⟩
 ·exact⟨b,hb,h,Rat.le_refl⟩
theorem ab_two (x y:Rat):∃B,0≤B∧∀t,x≤t→t≤y→Ab B t:=by
 obtain⟨K1,k1,a1⟩:=ab_ex x;obtain⟨K2,k2,a2⟩:=ab_ex y;obtain⟨B,b1,b2⟩:=ab_max (K:=K1) (L:=K2);have q1:=a1.1;have q2:=a2.2;exact⟨B,by grind,fun t h1 h2=>⟨by grind,by grind⟩⟩
def Low (p:List Rat) (x y:Rat):Prop:=∃ σ ε,Pm σ∧0<ε∧∀t,x≤t→t≤y→ε≤σ*evR p t
theorem Low.mono {p:List Rat} {x y a b:Rat} (h:Low p x y) (h1:x≤a) (h2:b≤y):Low p a b:=by
 obtain⟨σ,ε,hσ,he,hf⟩:=h;exact⟨σ,ε,hσ,he,fun t k1 k2=>hf t (Rat.le_trans h1 k1) (Rat.le_trans k2 h2)⟩
theorem Low.fx {p:List Rat} {x y:Rat} (h:Low p x y):∃ σ,Pm σ∧Fx σ p x y:=by
 obtain⟨σ,ε,hσ,he,hf⟩:=h;exact⟨σ,hσ,fun t k1 k2=>by have:=hf t k1 k2;grind⟩
theorem far_fix {p:List Rat} {x y ε:Rat} (he:0<ε) (h:x≤y) (hf:∀t,x≤t→t≤y→∃s,Pm s∧ε≤s*evR p t):Low p x y:=by
 obtain⟨B,hB,hin⟩:=ab_two x y;obtain⟨K,k0,hK⟩:=syn_ab hB p;obtain⟨d,d0,dK,-⟩:=small_ex he k0 (show (0:Rat)<1 by grind);obtain⟨n,hn⟩:=arch d0 (y - x);obtain⟨σ,hσ,hσx⟩:=hf x Rat.le_refl h;refine⟨σ,ε,hσ,he,fun t h1 h2=>?_⟩;refine by_pieces d0 (fun a b=>∀ σ,Pm σ→ε≤σ*evR p a→ε≤σ*evR p b) (fun _ _ _ h=>h) (fun a b c _ _ h1 h2 σ hs h=>h2 σ hs (h1 σ hs h)) (lo:=x) (hi:=y) (fun a b h1 h2 h3 h4 σ hs hp=>?_) n x t Rat.le_refl h1 h2 (by grind) σ hσ hσx;have hfx:=fix_near hK dK (hin a h1 (Rat.le_trans h2 h3)) (hin b (Rat.le_trans h1 h2) h3) h2 h4 hs hp b h2 Rat.le_refl;obtain⟨τ,hτ,hb⟩:=hf b (Rat.le_trans h1 h2) h3
 rcases hs with rfl|rfl <;> rcases hτ with rfl|rfl <;> first|exact hb|(exfalso;grind)
theorem Low.mul {a b c:List Rat} {x y:Rat} (h:Low a x y) (k:Low b x y) (e:∀t,evR c t=evR a t*evR b t):Low c x y:=by
 obtain⟨σ,ε,hσ,he,hf⟩:=h;obtain⟨τ,δ,hτ,hd,hg⟩:=k;refine⟨σ*τ,ε*δ,hσ.mul hτ,Rat.mul_pos he hd,fun t k1 k2=>?_⟩;have h1:=hf t k1 k2;have h2:=hg t k1 k2;rw [e,show σ*τ*(evR a t*evR b t)=(σ*evR a t)*(τ*evR b t) by grind];exact mul_le' h1 h2 (Rat.le_of_lt he) (Rat.le_of_lt hd)
theorem Low.fac {a b c:List Rat} {x y:Rat} (h:Low c x y) (hxy:x≤y) (e:∀t,evR c t=evR a t*evR b t):Low a x y:=by
 obtain⟨σ,ε,hσ,he,hf⟩:=h;obtain⟨B,hB,hin⟩:=ab_two x y;obtain⟨R,r0,hR⟩:=ev_ab hB b;obtain⟨δ,d0,d1,-⟩:=small_ex he r0 (show (0:Rat)<1 by grind);refine far_fix d0 hxy fun t h1 h2=>?_;obtain⟨s,hs,hsp⟩:=pm_of (evR a t);refine⟨s,hs,?_⟩
 rcases lt_or_le' (s*evR a t) δ with g|g
 ·exfalso
  have f1:=hf t h1 h2;rw [e] at f1;have hr:=(hR t (hin t h1 h2)).pm (hσ.mul hs)
  have e2:σ*(evR a t*evR b t)=(s*evR a t)*(σ*s*evR b t):=by
   have:=hs.sq
   grind
  have e3:(s*evR a t)*(σ*s*evR b t)≤(s*evR a t)*R:=by
   have:=Rat.mul_nonneg hsp (show 0≤R - σ*s*evR b t by have:=hr.2;grind)
   grind
  have e4:(s*evR a t)*R≤δ*R:=by
   have:=Rat.mul_nonneg r0 (show 0≤δ - s*evR a t by grind)
   grind
  grind
 ·exact g
theorem Low.one (x y:Rat):Low [1] x y:=⟨1,1,.inl rfl,by decide,fun t _ _=>by rw [ev_one];grind⟩
theorem Low.pwr {p:List Rat} {x y:Rat} (h:Low p x y):∀k,Low (pwrF p k) x y
 | 0=>by
  refine(Low.one x y).mul (Low.one x y) fun t=>?_;rw [ev_pwrF,ev_one,Rat.pow_zero];grind
 | k+1=>by
  refine(Low.pwr h k).mul h fun t=>?_;rw [ev_pwrF,ev_pwrF,pow_add1]
theorem base_pow:∀(n:Nat) (p:List Rat),Mo p→0<dgF p→dgF p≤n→∃(k:Nat) (h:List Rat),∀x,evR (baseP p) x ^ k=evR p x*evR h x
 | 0,p,_,h0,hn=>by omega
 | n+1,p,hp,h0,hn=>by
  rcases Nat.lt_or_ge 1 (dgF p) with h1|h1
  ·obtain⟨c,hc⟩:=(nextP_dv p).2
   obtain⟨P,C,-,-,-,-,e,-⟩:=yun_step hp h1 (base_ev h0) hc (quo_trim _ _);have ql:=nextP_less h1;obtain⟨k,h,ih⟩:=base_pow n (nextP p) (nextP_mo p) (nextP_pos h0) (by omega);refine⟨k+1,mulF h (pwrF P k),fun x=>?_⟩;have h2:evR (baseP p) x ^ k=evR P x ^ k*(evR (nextP p) x*evR h x):=by rw [e,mul_pow,ih]
   rw [pow_add1,h2,ev_mulF,ev_pwrF,base_ev h0 x];generalize evR P x ^ k=w
   grind
  ·have:p=[1]:=mo_one_of hp (by omega)
   refine⟨0,[1],fun x=>?_⟩;rw [this,ev_one,Rat.pow_zero];grind
theorem simple_pow {p:List Rat} (h0:0<dgF p):∃(k:Nat) (h:List Rat),∀x,evR (pwrF (simpleF p) k) x=evR p x*evR h x:=by
 have m0:0<dgF (monicF p):=by rw [dg_mon];exact h0
 obtain⟨k,h,e⟩:=base_pow _ (monicF p) (mo_mon p) m0 (Nat.le_refl _);refine⟨k,scaleF h (1 / topF (trimF p)*topF (trimF p) ^ k),fun x=>?_⟩;rw [ev_pwrF,simple_ev h0,mul_pow,e,mon_ev h0,ev_scaleF];generalize 1 / topF (trimF p)=w;generalize topF (trimF p) ^ k=v
 grind
theorem Low.of_simple {p:List Rat} (h0:0<dgF p) {x y:Rat} (hxy:x≤y) (h:Low (simpleF p) x y):Low p x y:=by
 obtain⟨k,H,e⟩:=simple_pow h0;exact(h.pwr k).fac hxy e
theorem Low.count {p:List Rat} (h0:0<dgF p) {x y:Rat} (hxy:x≤y) (h:Low p x y):betweenF (ownF p) x y=0:=by
 obtain⟨σ,ε,hσ,he,hf⟩:=h;exact count_far h0 hxy he fun t h1 h2=>⟨σ,hσ,hf t h1 h2⟩
theorem piece3 {B:Rat} (hB:0≤B) {p q:List Rat} {l:List (List Rat)} (hc:Chn (p :: q :: l)) {μ:Rat} (hμ:0<μ) (hq:∀x,evR q x=μ*evR (derivF p) x):∃d ε,0<d∧0<ε∧∀a b,Ab B a→Ab B b→a≤b→b - a≤d→(∃s,Pm s∧(∀x,a≤x→x≤b→ε≤s*evR p x)∧∃N:Int,∀x,a≤x→x≤b→vF (p :: q :: l) x=N)∨(∃s,Pm s∧Up s p a b∧Fx s q a b∧∃N:Int,∀x,a≤x→x≤b→vF (p :: q :: l) x=chg (atF x p) (si s)+N):=by
 obtain⟨κ,κ0,hη⟩:=hc.loc hB _ _ rfl;obtain⟨Kp,kp0,kp⟩:=syn_ab hB p;obtain⟨Kq,kq0,kq⟩:=syn_ab hB q;obtain⟨K2,k20,k2⟩:=syn2_ab hB p;obtain⟨d1,e,d10,e0,-,h1⟩:=hη 1 (by decide)
 obtain⟨d2,d20,d2a,d2b⟩:=small_ex (e:=κ) (K:=2*Kq+2*(μ*K2)) (n:=d1) κ0 (by
  have:=Rat.mul_nonneg (Rat.le_of_lt hμ) k20
  grind) d10
 obtain⟨d3,d30,d3a,d3b⟩:=small_ex (e:=e) (K:=2*Kp) (n:=d2) e0 (by grind) d20;refine⟨d3,e / 2,d30,by grind,fun a b ha hb hab hba=>?_⟩;obtain⟨t1,t2⟩:=h1 a b ha hb hab (by grind);obtain⟨σ,hσ,hσp⟩:=pm_of (evR p a)
 have hin:∀x,a≤x→x≤b→Ab B x:=fun x h1 h2=>by
  have q1:=ha.1;have q2:=hb.2
  constructor <;> grind
 rcases lt_or_le' (σ*evR p a) e with h|h
 ·obtain⟨q',m,s,hl,hs,hsq,hg⟩:=t2 (by rcases hσ with rfl|rfl <;> grind) (by rcases hσ with rfl|rfl <;> grind)
  injection hl with hl1 hl2
  subst hl1 hl2;obtain⟨N,hN⟩:=hg.head (p:=p);refine .inr ⟨s,hs,fun x y hax hxy hyb=>?_,?_,N,hN⟩
  ·have hx:=hin x hax (by grind)
   have hy:=hin y (by grind) hyb;have g1:=ev_syn a x q;have g2:=(show Ab d2 (x - a) by constructor <;> grind).mul (kq a x ha hx);have g3:=(show Ab d2 (y - x) by constructor <;> grind).mul (k2 x y hx hy);have g4:=taylor x y p;have g5:=hq x;have g6:=(g2.pm hs);have g7:=(g3.pm hs);have g8:=(show Ab μ μ from ⟨by grind,Rat.le_refl⟩).mul g7
   have pos:0<μ*(s*(evR (derivF p) x+(y - x)*evR (syn x (syn x p)) y)):=by
    have b1:=g6.1;have b2:=g8.1
    have e1:μ*(s*(evR (derivF p) x+(y - x)*evR (syn x (syn x p)) y))=s*evR q a+s*((x - a)*evR (syn a q) x)+μ*(s*((y - x)*evR (syn x (syn x p)) y)):=by
     rw [g1] at g5
     grind
    rw [e1]
    grind
   have pos2:0<s*(evR (derivF p) x+(y - x)*evR (syn x (syn x p)) y):=by
    rcases lt_or_le' 0 (s*(evR (derivF p) x+(y - x)*evR (syn x (syn x p)) y)) with h9|h9
    ·exact h9
    ·exfalso
     have:=Rat.mul_nonneg (Rat.le_of_lt hμ) (show 0≤-(s*(evR (derivF p) x+(y - x)*evR (syn x (syn x p)) y)) by grind)
     grind
   have pos3:=Rat.mul_pos (show 0<y - x by grind) pos2;rw [g4]
   grind
  ·cases hg with
   | one _ hf=>exact hf
   | next _ hf _=>exact hf
   | skip _ hf _=>exact hf
 ·obtain⟨N,hN⟩:=(t1 σ hσ h).same
  refine .inl ⟨σ,hσ,fun x h1 h2=>?_,N,hN⟩;have g1:=ev_syn a x p;have g2:=((show Ab d3 (x - a) by constructor <;> grind).mul (kp a x ha (hin x h1 h2))).pm hσ;have g3:=g2.1;rw [g1]
  grind
theorem piece2 {B:Rat} (hB:0≤B) {p q:List Rat} {l:List (List Rat)} (hc:Chn (p :: q :: l)):∃d,0<d∧∀a b,Ab B a→Ab B b→a≤b→b - a≤d→(∃s,Pm s∧Fx s p a b∧∃N:Int,∀x,a≤x→x≤b→vF (p :: q :: l) x=N)∨(∃s,Pm s∧Fx s q a b∧∃N:Int,∀x,a≤x→x≤b→vF (p :: q :: l) x=chg (atF x p) (si s)+N):=by
 obtain⟨κ,κ0,hη⟩:=hc.loc hB _ _ rfl;obtain⟨d1,e,d10,e0,-,h1⟩:=hη 1 (by decide);refine⟨d1,d10,fun a b ha hb hab hba=>?_⟩;obtain⟨t1,t2⟩:=h1 a b ha hb hab hba;obtain⟨σ,hσ,hσp⟩:=pm_of (evR p a)
 rcases lt_or_le' (σ*evR p a) e with h|h
 ·obtain⟨q',m,s,hl,hs,hsq,hg⟩:=t2 (by rcases hσ with rfl|rfl <;> grind) (by rcases hσ with rfl|rfl <;> grind)
  injection hl with hl1 hl2
  subst hl1 hl2;obtain⟨N,hN⟩:=hg.head (p:=p);refine .inr ⟨s,hs,?_,N,hN⟩
  cases hg with
  | one _ hf=>exact hf
  | next _ hf _=>exact hf
  | skip _ hf _=>exact hf
 ·obtain⟨N,hN⟩:=(t1 σ hσ h).same
  refine .inl ⟨σ,hσ,?_,N,hN⟩
  have:=t1 σ hσ h
  cases this with
  | next _ hf _=>exact hf
  | skip _ hf _=>exact hf
theorem v_fix2 {p q:List Rat} {l:List (List Rat)} (hc:Chn (p :: q :: l)) {x y s:Rat} (h:x≤y) (hs:Pm s) (hf:Fx s p x y):vF (p :: q :: l) y=vF (p :: q :: l) x:=by
 obtain⟨B,hB,hin⟩:=ab_two x y;obtain⟨d,d0,hp⟩:=piece2 hB hc;obtain⟨n,hn⟩:=arch d0 (y - x);refine by_pieces d0 (fun a b=>vF (p :: q :: l) b=vF (p :: q :: l) a) (fun x=>rfl) (fun x y z _ _ h1 h2=>h2.trans h1) (lo:=x) (hi:=y) (fun a b h1 h2 h3 h4=>?_) n x y Rat.le_refl h Rat.le_refl hn
 rcases hp a b (hin a h1 (Rat.le_trans h2 h3)) (hin b (Rat.le_trans h1 h2) h3) h2 h4 with ⟨_,_,_,N,hN⟩|⟨t,ht,hu,N,hN⟩
 ·rw [hN a Rat.le_refl h2,hN b h2 Rat.le_refl]
 ·rw [hN a Rat.le_refl h2,hN b h2 Rat.le_refl,at_si hs (hf a h1 (Rat.le_trans h2 h3)),at_si hs (hf b (Rat.le_trans h1 h2) h3)]
theorem chg_vals (s t:Rat) (hs:Pm s) (ht:Pm t):chg (si s) (si t)=if s=t then 0 else 1:=by
 rcases hs with rfl|rfl <;> rcases ht with rfl|rfl <;> decide
theorem low_keep {p:List Rat} (h0:0<dgF p) {x y:Rat} (h:x≤y) (hN:betweenF (ownF p) x y=0) (hx:evR p x≠0):Low p x y:=by
 refine Low.of_simple h0 h ?_;have hsx:evR (simpleF p) x≠0:=fun e=>hx ((root_simple h0 x).2 e)
 rcases own_chain h0 with ⟨d1,c,e,k,hk,hc⟩|⟨-,p0,q,l,k,μ,e,hc,hk,hp0,hμ,hq⟩
 ·have h1:∀t,evR (simpleF p) t=co (simpleF p) 0:=fun t=>ev_dg1 (by omega) t
  rw [h1] at hsx;obtain⟨σ,hσ,h2⟩:=pm_of (co (simpleF p) 0);have h3:0<σ*co (simpleF p) 0:=by rcases hσ with rfl|rfl <;> grind
  exact⟨σ,_,hσ,h3,fun t _ _=>by rw [h1];exact Rat.le_refl⟩
 ·obtain⟨B,hB,hin⟩:=ab_two x y
  obtain⟨d,ε,d0,ε0,hp⟩:=piece3 hB hc hμ hq;obtain⟨n,hn⟩:=arch d0 (y - x)
  have hlow:∀ σ,Pm σ→0<σ*evR p0 x→∃ ε,0<ε∧∀t,x≤t→t≤y→ε≤σ*evR p0 t:=by
   refine by_pieces d0 (fun a b=>betweenF (ownF p) a b=0→∀ σ,Pm σ→0<σ*evR p0 a→∃ ε,0<ε∧∀t,a≤t→t≤b→ε≤σ*evR p0 t) (fun a _ σ hσ h=>⟨_,h,fun t h1 h2=>by rw [show t=a by grind];exact Rat.le_refl⟩) (fun a b c hab hbc h1 h2 hz σ hσ hpos=>?_) (lo:=x) (hi:=y) (fun a b h1 h2 h3 h4 hz σ hσ hpos=>?_) n x y Rat.le_refl h Rat.le_refl hn hN
   ·have z1:=count_pos h0 hab
    have z2:=count_pos h0 hbc;have z3:=between_add (ownF p) a b c;obtain⟨ε1,e1,f1⟩:=h1 (by omega) σ hσ hpos;obtain⟨ε2,e2,f2⟩:=h2 (by omega) σ hσ (by have:=f1 b hab Rat.le_refl;grind);obtain⟨ε3,e3,g1,g2⟩:=min_ex e1 e2;refine⟨ε3,e3,fun t h3 h4=>?_⟩
    rcases Rat.le_total (a:=t) (b:=b) with g|g
    ·exact Rat.le_trans g1 (f1 t h3 g)
    ·exact Rat.le_trans g2 (f2 t g h4)
   ·rcases hp a b (hin a h1 (Rat.le_trans h2 h3)) (hin b (Rat.le_trans h1 h2) h3) h2 h4 with ⟨s,hs,hlo,-⟩|⟨s,hs,hup,-,N,hV⟩
    ·have:=hlo a Rat.le_refl h2
     have:s=σ:=by rcases hs with rfl|rfl <;> rcases hσ with rfl|rfl <;> first|rfl|(exfalso;grind)
     subst this;exact⟨ε,ε0,hlo⟩
    ·have hmon:∀u w,a≤u→u≤w→w≤b→s*evR p0 u≤s*evR p0 w:=fun u w g1 g2 g3=>by
      rcases lt_or_le' u w with g|g
      ·exact Rat.le_of_lt (hup u w g1 g g3)
      ·rw [show u=w by grind];exact Rat.le_refl
     have haσ:=at_si hσ hpos
     have hzz:chg (atF b p0) (si s)=chg (si σ) (si s):=by
      rw [between_v,e] at hz;have v1:=hV a Rat.le_refl h2;have v2:=hV b h2 Rat.le_refl;rw [haσ] at v1;omega
     rcases Classical.em (σ=s) with g|g
     ·subst g
      exact⟨_,hpos,fun t g1 g2=>hmon a t Rat.le_refl g1 g2⟩
     ·have hs':s = -σ:=by rcases hs with rfl|rfl <;> rcases hσ with rfl|rfl <;> first|(exfalso;exact g rfl)|(exfalso;grind)|grind
      rw [chg_vals σ s hσ hs,if_neg g] at hzz
      have hb:0<σ*evR p0 b:=by
       have c1:=chg_vals s s hs hs;rw [if_pos rfl] at c1
       rcases at_cases b p0 with ⟨z1,z2⟩|⟨z1,z2⟩|⟨z1,z2⟩
       ·rw [z1] at hzz
        have:chg 0 (si s)=0:=by unfold chg;rw [if_neg (by omega)]
        omega
       ·rcases hs with rfl|rfl
        ·rw [z1] at hzz;exact absurd hzz (by decide)
        ·rw [show σ=1 by grind];grind
       ·rcases hs with rfl|rfl
        ·rw [show σ = -1 by grind];grind
        ·rw [z1] at hzz;exact absurd hzz (by decide)
      refine⟨_,hb,fun t g1 g2=>?_⟩
      have:=hmon t b g1 g2 Rat.le_refl
      rw [hs'] at this
      grind
  obtain⟨σ,hσ,h1⟩:=pm_of (evR p0 x)
  have hp0x:evR p0 x≠0:=fun e=>by
   rw [hp0] at e
   rcases Rat.mul_eq_zero.1 e with z|z
   ·exact hsx z
   ·grind
  obtain⟨δ,dl,hl⟩:=hlow σ hσ (by rcases hσ with rfl|rfl <;> grind)
  have:Low p0 x y:=⟨σ,δ,hσ,dl,hl⟩
  exact this.fac (b:=[k]) h fun t=>by rw [ev_const];exact hp0 t
end Go.Proofs.YtaaoleakkaloeaaGreatDoor
