/- The laws of PolyRing, of lists of numbers (plain). Arguments that are slices of strings, opened and shut; the answer of a law's row with places. What the rows' lists give at the seat of the Poly laws: the table of powers of ten. What the law PolyRing needs beside the contracts. -/
import Derived.Test.YtjamgccgoapbeaaGreatDoorGYu
import Derived.Test.YtjamgccgoapbeaaGreatDoorGYa
import Derived.Test.YtjamgccgoapbeaaGreatDoorGYt
import Derived.Deep.Strs
import Derived.WalkKit
import Derived.ProofKit
import Derived.OpenShut
import Derived.RowKit
import Derived.Test.YtjamgccgoapbeaaGreatDoorGVx
import Derived.Test.YtjamgccgoapbeaaGreatDoorCards
import Derived.Test.YtjamgccgoapbeaaGreatDoorTie
import Derived.MakeChecks
import Derived.Lay
import Derived.Deep.DeepHandedRow
import Derived.Lib.LaidU8
set_option linter.unusedVariables false
set_option maxRecDepth 100000
set_option maxHeartbeats 64000000
namespace Go.Proofs.YtjamgccgoapbeaaGreatDoor
theorem co_mulF (p q:List Rat):co (mulF p q)=cnv (co p) (co q):=by
 funext i
 unfold mulF;rw [co_trim,co_mulR]
theorem co_addF (p q:List Rat):co (addF p q)=fun k=>co p k+co q k:=by
 funext i
 unfold addF;rw [co_trim,co_zip]
theorem ring_comm (p q:List Rat):mulF p q=mulF q p:=by
 unfold mulF;exact trim_co fun i=>by rw [co_mulR,co_mulR,cnv_comm]
theorem ring_assoc (p q r:List Rat):mulF (mulF p q) r=mulF p (mulF q r):=by
 show trimF (mulR (mulF p q) r)=trimF (mulR p (mulF q r))
 exact trim_co fun i=>by rw [co_mulR,co_mulR,co_mulF,co_mulF,cnv_assoc]
theorem ring_dist (p q r:List Rat):mulF (addF p q) r=addF (mulF p r) (mulF q r):=by
 show trimF (mulR (addF p q) r)=trimF (zipA (mulF p r) (mulF q r))
 exact trim_co fun i=>by rw [co_mulR,co_zip,co_addF,co_mulF,co_mulF,cnv_add_l]
theorem sub_back (p q:List Rat):subF (addF p q) q=trimF p:=by
 show trimF (zipA (addF p q) (scaleF q (-1)))=trimF p
 refine trim_co fun i=>?_;rw [co_zip,co_addF];unfold scaleF;rw [co_trim,co_map]
 grind
theorem deriv_mul (p q:List Rat):derivF (mulF p q)=addF (mulF (derivF p) q) (mulF p (derivF q)):=by
 show trimF (derU (mulF p q) (mulF p q).length)=trimF (zipA (mulF (derivF p) q) (mulF p (derivF q)))
 refine trim_co fun i=>?_;have h:=co_deriv (mulF p q) i;unfold derivF at h;rw [co_trim] at h;rw [h,co_zip,co_mulF,co_mulF,co_mulF,cnv_deriv];rw [show co (derivF p)=dco (co p) from funext (co_deriv p),show co (derivF q)=dco (co q) from funext (co_deriv q)]
theorem cnv_high (g:Nat→Rat) (j:Nat) (hg:∀k,j<k→g k=0):∀(i:Nat) (f:Nat→Rat) (n:Nat),(∀k,i<k→f k=0)→i+j<n→cnv f g n=0:=by
 intro i
 induction i with
 | zero=>
  intro f n hf hn;obtain⟨m,rfl⟩:∃m,n=m+1:=⟨n - 1,by omega⟩;rw [cnv_succ,hg _ (by omega),show (fun k=>f (k+1))=fun _=>0 from funext fun k=>hf _ (by omega),cnv_zero_l]
  grind
 | succ i ih=>
  intro f n hf hn;obtain⟨m,rfl⟩:∃m,n=m+1:=⟨n - 1,by omega⟩;rw [cnv_succ,hg _ (by omega),ih (fun k=>f (k+1)) m (fun k hk=>hf _ (by omega)) (by omega)]
  grind
theorem cnv_top (g:Nat→Rat) (j:Nat) (hg:∀k,j<k→g k=0):∀(i:Nat) (f:Nat→Rat),(∀k,i<k→f k=0)→cnv f g (i+j)=f i*g j:=by
 intro i
 induction i with
 | zero=>
  intro f hf;rw [Nat.zero_add]
  cases j with
  | zero=>rfl
  | succ j=>
   rw [cnv_succ,show (fun k=>f (k+1))=fun _=>0 from funext fun k=>hf _ (by omega),cnv_zero_l]
   grind
 | succ i ih=>
  intro f hf;rw [show i+1+j=(i+j)+1 by omega,cnv_succ,hg _ (by omega),ih (fun k=>f (k+1)) (fun k hk=>hf _ (by omega))]
  grind
theorem len_of {p:List Rat} {n:Nat} (h0:co p n≠0) (h:∀k,n<k→co p k=0):(trimF p).length=n+1:=by
 have h1:n<(trimF p).length:=by
  rcases Nat.lt_or_ge n (trimF p).length with h1|h1
  ·exact h1
  ·exact absurd ((co_trim p n).symm.trans (co_ge h1)) h0
 have h2:trimF p≠[]:=fun e=>by rw [e] at h1;cases h1
 have h3:=trim_last h2
 rcases Nat.lt_or_ge n ((trimF p).length - 1) with h4|h4
 ·exact absurd (h _ h4) h3
 ·omega
theorem deg_mul {p q:List Rat} {i j:Nat} (hp:(trimF p).length=i+1) (hq:(trimF q).length=j+1):(trimF (mulF p q)).length=i+j+1:=by
 have h1:∀(l:List Rat) (n:Nat),(trimF l).length=n+1→co l n≠0∧∀k,n<k→co l k=0:=fun l n hl=>by
  have h2:trimF l≠[]:=fun e=>by rw [e] at hl;cases hl
  have h3:=trim_last h2;rw [hl] at h3;exact⟨h3,fun k hk=>(co_trim l k).symm.trans (co_ge (by omega))⟩
 obtain⟨a0,a1⟩:=h1 p i hp;obtain⟨b0,b1⟩:=h1 q j hq;refine len_of ?_ fun k hk=>?_
 ·rw [co_mulF,cnv_top _ j b1 i _ a1]
  intro e
  rcases Rat.mul_eq_zero.1 e with e|e
  ·exact a0 e
  ·exact b0 e
 ·rw [co_mulF]
  exact cnv_high _ j b1 i _ k a1 hk
theorem ev_mulF (p q:List Rat) (x:Rat):evR (mulF p q) x=evR p x*evR q x:=by unfold mulF;rw [ev_trim,ev_mul]
theorem ev_addF (p q:List Rat) (x:Rat):evR (addF p q) x=evR p x+evR q x:=by unfold addF;rw [ev_trim,ev_zip]
theorem horn_in {a:Rat × Rat} {y:Rat} (hy:Btw a.1 a.2 y):∀(xs:List Rat),InS (hornS a xs.reverse) (hornF y xs.reverse):=by
 intro xs
 induction xs with
 | nil=>exact⟨Rat.le_refl,Rat.le_refl⟩
 | cons c xs ih=>
  rw [List.reverse_cons,hornS_snoc,horn_snoc];unfold stepS;have h1:Btw (hornS a xs.reverse).1 (hornS a xs.reverse).2 (hornF y xs.reverse):=.inl ih;have h2:=mul_in h1 hy;have h3:InS (aq c c) c:=in_sort.2 (.inl ⟨Rat.le_refl,Rat.le_refl⟩);exact add_in (in_sort.2 (.inl h2)) h3
theorem has_ev (p:List Rat) (x z:Rat):hasB (evS p (x,z)).1 (evS p (x,z)).2 (evR p x)=true:=by
 have h:=horn_in (a:=(x,z)) (y:=x) (by rcases Rat.le_total (a:=x) (b:=z) with h|h;exact .inl ⟨Rat.le_refl,h⟩;exact .inr ⟨h,Rat.le_refl⟩) (trimF p);rw [horn_rev,ev_trim] at h;exact hasB_true.2 (in_sort.2 (.inl h))
end Go.Proofs.YtjamgccgoapbeaaGreatDoor
set_option linter.unusedVariables false
set_option maxRecDepth 100000
set_option maxHeartbeats 64000000
namespace Go.Proofs.YtjamgccgoapbeaaGreatDoor
open Go Go.ChangeShapes Go.WideShapes Go.ChangeAt Go.RowKit Go.Deep
theorem ext_frozenP {W W':World} (h:Ext W W') {b:Nat} (hb:b<W.heap.size) (o:Nat) (s:_):W'.frozen? ⟨b,o,s⟩=W.frozen? ⟨b,o,s⟩:=by
 have h1:=h.block b hb;unfold World.frozen?
 simp only [h1]
theorem post_extP {H:Type} {enc:TypeId × Value→H} {f:Func} {s:ChangeSpec} {apart fresh handsOn again:Bool} {W W':World} {args:Array Value} {v:Value} {ds gs:List (DataW H)} {pa:List MemPlace} (hW:DataW.Whole enc Tryz.prog f.params.toList s.vars apart W args.toList ds gs pa) (hres:∀(b:Nat) (sp:Nat→Bool) (hd:Bool),DataW.TrodAll enc Tryz.prog W' b sp hd f.resultTypes.toList (v.resultList f.resultTypes.size) (s.fn H (ds ++ gs)).results []) (hargs:∀sp:Nat→Bool,(∀p ∈ pa,sp p.block=true)→DataW.TrodAll enc Tryz.prog W' 0 sp true f.params.toList args.toList (s.fn H (ds ++ gs)).args pa) (hvars:∀sp:Nat→Bool,DataW.TrodVars enc Tryz.prog W' sp s.vars (s.fn H (ds ++ gs)).vars []) (hk:Ext W W') (hok:∀(j:Nat) (t:TypeId) (r:Value),f.resultTypes[j]?=some t→(v.resultList f.resultTypes.size)[j]?=some r→Value.okWide Tryz.prog W' .any 0 t r):s.post enc Tryz.prog f apart fresh handsOn again W args v W':=by
 have hold:∀p ∈ pa,(fun b=>decide (b<W.heap.size)) p.block=true:=fun p hp=>by simpa using hW.lt p hp
 have hlt:=fun p hp=>hW.lt p hp;refine⟨ds,gs,pa,[],pa,[],hW,hres _ _ _,hargs _ hold,hvars _,World.keptBut_mono (fun p hp=>⟨hp,Or.inr (Or.inl hp)⟩) (hk.frame (· ∈ pa)),fun _=>?_⟩;obtain⟨_,_,_,_,_,hz,hn⟩:=hW;refine⟨hok,_,_,([] ++ pa) ++ [],⟨[] ++ pa,[],trodAll_append (hargs _ (fun _ _=>rfl)) (hres _ _ _),hvars _,rfl,?_,?_⟩,?_⟩
 ·intro b off hp
  have hp':MemPlace.cell b off ∈ pa:=by simpa using hp
  rw [ext_frozenP hk (b:=b) (hlt _ hp')];exact hz b off hp'
 ·intro ha
  simpa using hn ha
 ·intro p hp _
  simpa using hp
theorem open_stl {H:Type} {enc:TypeId × Value→H} {W:World} {b0:Nat} {T E:TypeId} {v:Value} {d:DataW H} {ps:List MemPlace} (ht:Tryz.prog.underlying T=some (.slice E)) (he:Tryz.prog.underlying E=some .string) (hc:Tryz.prog.cellsOf E=1) (hv:Value.okWide Tryz.prog W .any b0 T v) (h:DataW.Trod enc Tryz.prog W 0 (fun _=>true) true T v d ps):∃ls,Stl W v ls∧∀W',Ext W W'→∀sp:Nat→Bool,(∀p ∈ ps,sp p.block=true)→DataW.Trod enc Tryz.prog W' 0 sp true T v d ps:=by
 obtain⟨a0,len,cap,rfl⟩:=okWide_slice ht hv;obtain⟨fuel,hf⟩:=h
 rcases open_strs ht he hc hf with ⟨hcs,hx⟩|⟨a,len',cap',m,Sx,hcs,_,hl,hm,hmm,hx,hcell⟩
 ·simp [Value.cells] at hcs
  obtain⟨rfl,rfl,rfl⟩:=hcs
  simp only [Prod.mk.injEq] at hx
  obtain⟨rfl,rfl⟩:=hx;exact⟨[],.inl ⟨⟨_,_,rfl⟩,rfl⟩,fun W' _ sp _=>shut_slice_nil ht⟩
 simp [Value.cells] at hcs
 obtain⟨rfl,rfl,rfl⟩:=hcs
 simp only [Prod.mk.injEq] at hx
 obtain⟨rfl,rfl⟩:=hx
 simp only [if_true] at hmm
 subst hmm;obtain⟨b,off,spot⟩:=a
 by_cases hc0:m=0
 ·subst hc0
  have hlen0:len=0:=by omega
  subst hlen0;refine⟨[],.inl ⟨⟨_,_,rfl⟩,rfl⟩,fun W' _ sp _=>?_⟩
  show ∃n,DataW.trod enc Tryz.prog W' 0 sp true n T [.slice (some ⟨b,off,spot⟩) 0 0]=some (.slice [] [],[])
  cases hsp:sp b
  ·simpa [MemPlace.row] using shut_slice_cells (enc:=enc) (w:=W') (base:=0) (spare:=sp) (held:=true) (a:=⟨b,off,spot⟩) (len:=0) (cap:=0) ht (Nat.zero_le _) (Nat.le_refl _) (Nat.zero_le _) hsp (fun _=>.nil) (fun _=>[]) (fun i hi=>absurd hi (Nat.not_lt_zero _))
  ·simpa [MemPlace.row] using shut_slice_whole_cells (enc:=enc) (w:=W') (base:=0) (spare:=sp) (held:=true) (a:=⟨b,off,spot⟩) (len:=0) (cap:=0) ht (Nat.zero_le _) (Nat.le_refl _) (Nat.zero_le _) hsp (fun _=>.nil) (fun _=>[]) (fun i hi=>absurd hi (Nat.not_lt_zero _))
 have hspot:spot=none:=by simpa [Addr.add] using World.cell?_spot (hcell 0 (by omega)).1
 subst hspot;have hcell':∀j,j<m→W.cell? ⟨b,off+j,none⟩=some (.string (Sx j)):=fun j hj=>by rw [←add_plain];exact(hcell j hj).1
 refine⟨(List.range len).map fun i=>(Sx i).data.toList,.inr ⟨b,off,m,by simp,by simp;omega,fun s hs=>?_,fun i s hs=>?_⟩,fun W' k sp hsp=>?_⟩
 ·obtain⟨i,hi,rfl⟩:=List.mem_map.1 hs
  have:=(hcell i (by have:=List.mem_range.1 hi;omega)).2
  rw [Array.length_toList];exact this
 ·rw [List.getElem?_map] at hs
  have hi:i<len:=by
   rcases Nat.lt_or_ge i len with h|h
   ·exact h
   ·rw [List.getElem?_eq_none (by simpa using h)] at hs;cases hs
  rw [List.getElem?_range hi] at hs;obtain rfl:=Option.some.inj hs;exact hcell' i (by omega)
 ·exact shut_strs_whole (enc:=enc) (w:=W') (base:=0) (spare:=sp) (held:=true) ht he hc (Nat.zero_le _) hl hm (hsp (.cell b (off+0)) (MemPlace.mem_row.2 ⟨0,by omega,rfl⟩)) Sx (fun i hi=>ap k (hcell' i hi)) (fun i hi=>(hcell i hi).2)
end Go.Proofs.YtjamgccgoapbeaaGreatDoor
set_option linter.unusedVariables false
set_option maxRecDepth 100000
set_option maxHeartbeats 64000000
namespace Go.Proofs.YtjamgccgoapbeaaGreatDoor
open Go.ChangeShapes Go.WideShapes Go.ChangeAt Go.RowKit
theorem tensP {W:World} (h:Lib.VarReads Tryz.prog W "internal/strconv.uint64pow10" Rows.laid_internal_strconv_uint64pow10):Tens W:=by
 obtain⟨g,t,cs,fuel,p,hg,ht,hv,hd⟩:=h;have hg':Tryz.prog.globalNamed "internal/strconv.uint64pow10"=some 2:=by kernel_rfl
 obtain rfl:=Option.some.inj (hg'.symm.trans hg);have ht':(Tryz.prog.globals[(2:Nat)]?).map (·.type)=some 213:=by kernel_rfl
 obtain rfl:=Option.some.inj (ht'.symm.trans ht);have e:(Rows.laid_internal_strconv_uint64pow10:DataW Unit)=Lib.tabData .u64 Lib.pow10Tab:=by kernel_rfl
 rw [e] at hd;unfold Tens Lib.TabIs;rw [hv,←Lib.cells_of_tab Tryz.underlying213 Tryz.underlying96 (by kernel_rfl) (by kernel_rfl) hd]
theorem tensP_of {W:World} {l:List (String × DataW Unit)} (h:laidMetH Tryz.prog l W) (hp:(l.all fun x=>x.2.handleName?.isNone)=true) (h1:("internal/strconv.uint64pow10",Rows.laid_internal_strconv_uint64pow10) ∈ l):Tens W:=by
 rw [MakeChecks.laidMetH_plain _ _ _ hp] at h;exact tensP (Lib.laidMet.reads h h1)
end Go.Proofs.YtjamgccgoapbeaaGreatDoor
set_option linter.unusedVariables false
set_option maxRecDepth 100000
set_option maxHeartbeats 64000000
namespace Go.Proofs.YtjamgccgoapbeaaGreatDoor
open Go Go.RowKit
set_option linter.unusedSimpArgs false
def Px (w:World) (v:Value) (p:List Rat) (N M:Nat):Prop:=Pl w v p∧p.length≤N∧∀x ∈ p,Bq M x
theorem Px.mono {w w':World} {v:Value} {p:List Rat} {N M:Nat} (h:Px w v p N M) (k:Ext w w'):Px w' v p N M:=⟨h.1.mono k,h.2⟩
theorem Px.up {w:World} {v:Value} {p:List Rat} {N M N' M':Nat} (h:Px w v p N M) (hN:N≤N') (hM:M≤M'):Px w v p N' M':=⟨h.1,Nat.le_trans h.2.1 hN,fun x hx=>(h.2.2 x hx).mono hM⟩
theorem bq_of_co {l:List Rat} {K:Nat} (h:∀i,Bq K (co l i)):∀x ∈ l,Bq K x:=by
 intro x hx;obtain⟨i,hi⟩:=List.getElem?_of_mem hx;have h1:=h i;unfold co at h1;rw [hi] at h1;exact h1
theorem mul_x {N1 N2 M N K:Nat} (hM:0<M) (hN1:N1≤100000) (hN2:N2≤100000) (hK:N1*(M+M+1)+1≤K) (hK2:K≤1099511627776) (hN:N1+N2≤N) (vp vq:Value) (p q:List Rat) (w:World) (hp:Px w vp p N1 M) (hq:Px w vq q N2 M):Calls Tryz.prog 32 #[vp,vq] w fun e w'=>∃v',e=.returned v'∧Px w' v' (mulF p q) N K∧Ext w w':=by
 have h1:p.length*(M+M+1)+1≤K:=Nat.le_trans (Nat.add_le_add_right (Nat.mul_le_mul_right _ hp.2.1) 1) hK;refine(mul_p M hM vp vq p q (Nat.le_trans hp.2.1 hN1) (Nat.le_trans hq.2.1 hN2) (Nat.le_trans h1 hK2) w hp.1 hq.1 hp.2.2 hq.2.2).mono ?_;rintro e w' ⟨v',rfl,h,k⟩;have h3:=hp.2.1;have h4:=hq.2.1;exact⟨v',rfl,⟨h.pl,Nat.le_trans (mulF_len p q) (by omega),fun x hx=>(bq_mulF hM hp.2.2 hq.2.2 x hx).mono h1⟩,k⟩
theorem add_x {N1 N2 M N K:Nat} (hM:0<M) (hM2:M≤1099511627776) (hN1:N1≤N) (hN2:N2≤N) (hN:N≤100000) (hK:M+M+1≤K) (vp vq:Value) (p q:List Rat) (w:World) (hp:Px w vp p N1 M) (hq:Px w vq q N2 M):Calls Tryz.prog 28 #[vp,vq] w fun e w'=>∃v',e=.returned v'∧Px w' v' (addF p q) N K∧Ext w w':=by
 have h3:=hp.2.1;have h4:=hq.2.1;refine(add_p M hM2 vp vq p q (by omega) (by omega) w hp.1 hq.1 hp.2.2 hq.2.2).mono ?_;rintro e w' ⟨v',rfl,h,k⟩;refine⟨v',rfl,⟨h.pl,add_len p q N (by omega) (by omega),bq_of_co fun i=>?_⟩,k⟩;rw [co_addF];exact((bq_co hM hp.2.2 i).add (bq_co hM hq.2.2 i)).mono hK
theorem sub_x {N M:Nat} (hM2:M≤1099511627000) (hN:N≤100000) (vp vq:Value) (p q:List Rat) (w:World) (hp:Px w vp p N M) (hq:Px w vq q N M):Calls Tryz.prog 30 #[vp,vq] w fun e w'=>∃v',e=.returned v'∧Pl w' v' (subF p q)∧Ext w w':=by
 refine(sub_p M hM2 vp vq p q (by have:=hp.2.1;omega) (by have:=hq.2.1;omega) w hp.1 hq.1 hp.2.2 hq.2.2).mono ?_;rintro e w' ⟨v',rfl,h,k⟩;exact⟨v',rfl,h.pl,k⟩
theorem trim_x {N M:Nat} (hN:N≤100000) (vp:Value) (p:List Rat) (w:World) (hp:Px w vp p N M):Calls Tryz.prog 24 #[vp] w fun e w'=>∃v',e=.returned v'∧Px w' v' (trimF p) N M∧Ext w w':=by
 refine(trim_q vp p (by have:=hp.2.1;omega) w hp.1).mono ?_;rintro e w' ⟨v',rfl,h,k⟩;exact⟨v',rfl,⟨h.pl,Nat.le_trans (trim_le p) hp.2.1,fun x hx=>hp.2.2 x (trim_mem hx)⟩,k⟩
theorem deriv_x {N M K:Nat} (hM:0<M) (hN:N≤100000) (hK:M+64≤K) (hK2:K≤1099511627776) (vp:Value) (p:List Rat) (w:World) (hp:Px w vp p N M):Calls Tryz.prog 36 #[vp] w fun e w'=>∃v',e=.returned v'∧Px w' v' (derivF p) N K∧Ext w w':=by
 refine(deriv_p M hM (Nat.le_trans hK hK2) vp p (by have:=hp.2.1;omega) w hp.1 hp.2.2).mono ?_;rintro e w' ⟨v',rfl,h,k⟩;exact⟨v',rfl,⟨h.pl,Nat.le_trans (deriv_len p) hp.2.1,fun x hx=>(bq_deriv hM hp.2.2 (by have:=hp.2.1;omega) x hx).mono hK⟩,k⟩
theorem equal_x {N M:Nat} (hM:M≤1099511627776) (hN:N≤100000) (va vb:Value) (p q:List Rat) (he:q=p) (w:World) (hp:Px w va p N M) (hq:Pl w vb q):Calls Tryz.prog 12 #[va,vb] w fun e w'=>e=.returned (.bool true)∧Ext w w':=by
 subst he;exact equal_p M hM va vb q (by have:=hp.2.1;omega) w hp.1 hq hp.2.2
theorem equal_y {N M:Nat} (hM:M≤1099511627776) (hN:N≤100000) (va vb:Value) (p q:List Rat) (he:p=q) (w:World) (hp:Pl w va p) (hq:Px w vb q N M):Calls Tryz.prog 12 #[va,vb] w fun e w'=>e=.returned (.bool true)∧Ext w w':=by
 subst he;exact equal_p M hM va vb p (by have:=hq.2.1;omega) w hp hq.1 hq.2.2
theorem deg_x {N M:Nat} (hN:N≤100000) (vp:Value) (p:List Rat) (w:World) (hp:Px w vp p N M) (d:Int) (hd:((trimF p).length:Int) - 1=d):Calls Tryz.prog 26 #[vp] w fun e w'=>e=.returned (.int .i64 d)∧Ext w w':=by
 subst hd;exact deg_q vp p (by have:=hp.2.1;omega) w hp.1
theorem bq_ev {M:Nat} {x:Rat} (bx:Bq M x):∀(L:List Rat),(∀c ∈ L,Bq M c)→Bq (L.length*(M+M+1)+1) (evR L x):=by
 intro L
 induction L with
 | nil=>intro _;exact bq_zero _ (by omega)
 | cons c L ih=>
  intro h;have h1:=ih fun y hy=>h y (List.mem_cons_of_mem _ hy);have h2:=(h1.mul bx).add (h c (List.mem_cons_self ..));unfold evR;refine h2.mono ?_;rw [List.length_cons,Nat.add_mul];omega
theorem eval_x {N M K:Nat} (hM:0<M) (hN:N≤100000) (hK:N*(M+M+1)+1+M≤K) (hK2:K≤1099511627776) (vp vx:Value) (p:List Rat) (x:Rat) (w:World) (hp:Px w vp p N M) (hx:Nm w vx x) (bx:Bq M x):Calls Tryz.prog 39 #[vp,vx] w fun e w'=>∃v',e=.returned v'∧Nm w' v' (evR p x)∧Ext w w':=by
 have h1:p.length*(M+M+1)≤N*(M+M+1):=Nat.mul_le_mul_right _ hp.2.1;exact eval_p M hM vp vx p x (Nat.le_trans hp.2.1 hN) (by omega) w hp.1 hx hp.2.2 bx
theorem bq_evx {w:World} {v:Value} {p:List Rat} {x:Rat} {N M K:Nat} (hp:Px w v p N M) (bx:Bq M x) (hK:N*(M+M+1)+1≤K):Bq K (evR p x):=
 (bq_ev bx p hp.2.2).mono (Nat.le_trans (Nat.add_le_add_right (Nat.mul_le_mul_right _ hp.2.1) 1) hK)
theorem bq_horn {M:Nat} {a:Rat × Rat} (ha:Bq M a.1∧Bq M a.2):∀(L:List Rat),(∀c ∈ L,Bq M c)→Bq (L.length*(M+M+1)+1) (hornS a L.reverse).1∧Bq (L.length*(M+M+1)+1) (hornS a L.reverse).2:=by
 intro L
 induction L with
 | nil=>intro _;exact⟨bq_zero _ (by omega),bq_zero _ (by omega)⟩
 | cons c L ih=>
  intro h;have h1:=ih fun y hy=>h y (List.mem_cons_of_mem _ hy);have h2:=bq_stepS h1 ha (h c (List.mem_cons_self ..));rw [List.reverse_cons,hornS_snoc];have h3:L.length*(M+M+1)+1+M+M+1≤(c :: L).length*(M+M+1)+1:=by rw [List.length_cons,Nat.add_mul];omega
  exact⟨h2.1.mono h3,h2.2.mono h3⟩
theorem bq_evs {w:World} {v:Value} {p:List Rat} {a:Rat × Rat} {N M K:Nat} (hp:Px w v p N M) (ha:Bq M a.1∧Bq M a.2) (hK:N*(M+M+1)+1≤K):Bq K (evS p a).1∧Bq K (evS p a).2:=by
 have h:=bq_horn ha (trimF p) fun c hc=>hp.2.2 c (trim_mem hc);have h1:(trimF p).length*(M+M+1)+1≤K:=Nat.le_trans (Nat.add_le_add_right (Nat.mul_le_mul_right _ (Nat.le_trans (trim_le p) hp.2.1)) 1) hK;exact⟨h.1.mono h1,h.2.mono h1⟩
theorem span_x {N M:Nat} (hM:0<M) (hN:N≤100000) (hK:N*(M+M+1)+1+M≤549755813888) (vp vx:Value) (p:List Rat) (a1 a2:Rat) (w:World) (hp:Px w vp p N M) (hx:Sp w vx a1 a2) (b1:Bq M a1) (b2:Bq M a2):Calls Tryz.prog 10 #[vp,vx] w fun e w'=>∃v',e=.returned v'∧Sp w' v' (evS p (a1,a2)).1 (evS p (a1,a2)).2∧Ext w w':=by
 have h1:p.length*(M+M+1)≤N*(M+M+1):=Nat.mul_le_mul_right _ hp.2.1;exact eval_span_p M hM vp vx p a1 a2 (Nat.le_trans hp.2.1 hN) (by omega) w hp.1 hx hp.2.2 b1 b2
theorem list_x (v:Value) (ls:List (List UInt8)) (w:World) (h:Stl w v ls) (hn:ls.length≤60):Calls Tryz.prog 22 #[v] w fun e w'=>∃va vx,e=.returned (.tuple #[va,vx])∧Px w' va (listF ls) 60 4001∧Ext w w':=by
 refine(list_p v ls (by omega) w h).mono ?_;rintro e w' ⟨va,vx,rfl,hp,k⟩;refine⟨va,vx,rfl,⟨hp,by unfold listF;rw [List.length_map];exact hn,fun x hx=>?_⟩,k⟩;unfold listF at hx;obtain⟨s,-,rfl⟩:=List.mem_map.1 hx;exact az s
theorem great_len {LL:List (Value × List (List UInt8))} (h:greatF LL=false):∀y ∈ LL,y.2.length≤60:=by
 intro y hy;have h1:=List.any_eq_false.1 h y hy;rw [Bool.or_eq_true,not_or] at h1
 have:=h1.1
 rw [decide_eq_true_eq] at this;omega
theorem lt_of_block' {W:World} {k:Nat} {o:Obj} (h:W.heap[k]?=some o):k<W.heap.size:=(Array.getElem?_eq_some_iff.1 h).1
structure RgS (W0 W:World) (ks:List (Nat × Obj)) (ns:List (Value × Rat)):Prop where
 ext:Ext W0 W
 keep:∀p ∈ ks,W0.heap.size≤p.1∧W.heap[p.1]?=some p.2
 nn:∀y ∈ ns,Nm W y.1 y.2
theorem RgS.start (W:World):RgS W W [] []:=⟨ae _,(fun p hp=>by cases hp),(fun p hp=>by cases hp)⟩
theorem RgS.mono {W0 W W':World} {ks:List (Nat × Obj)} {ns:List (Value × Rat)} (h:RgS W0 W ks ns) (k:Ext W W'):RgS W0 W' ks ns:=
 ⟨al h.ext k,(fun p hp=>⟨(h.keep p hp).1,(k.block _ (lt_of_block' (h.keep p hp).2)).trans (h.keep p hp).2⟩),(fun y hy=>(h.nn y hy).mono k)⟩
theorem RgS.alloc {W0 W:World} {ks:List (Nat × Obj)} {ns:List (Value × Rat)} (h:RgS W0 W ks ns) (o:Obj):RgS W0 (W.alloc o) ((W.heap.size,o) :: ks) ns:=by
 have hm:=h.mono (ab W o);refine⟨hm.ext,fun p hp=>?_,hm.nn⟩
 rcases List.mem_cons.1 hp with rfl|hp
 ·exact⟨h.ext.size,heap_alloc_new _ _⟩
 ·exact hm.keep p hp
theorem RgS.num {W0 W:World} {ks:List (Nat × Obj)} {ns:List (Value × Rat)} {v:Value} {q:Rat} (h:RgS W0 W ks ns) (hq:Nm W v q):RgS W0 W ks ((v,q) :: ns):=
 ⟨h.ext,h.keep,fun y hy=>by
  rcases List.mem_cons.1 hy with rfl|hy
  ·exact hq
  ·exact h.nn y hy⟩
theorem RgS.sub {W0 W:World} {ks ks':List (Nat × Obj)} {ns:List (Value × Rat)} (h:RgS W0 W ks ns) (hs:∀p ∈ ks',p ∈ ks):RgS W0 W ks' ns:=⟨h.ext,(fun p hp=>h.keep p (hs p hp)),h.nn⟩
theorem RgS.put {W0 W:World} {ks:List (Nat × Obj)} {ns:List (Value × Rat)} {g:Nat} {s:Bool} {A B:Option Addr} {k ca l cb:Nat} {T:TypeId} (h:RgS W0 W ks ns) (hg:(g,.cells #[.bool s,.slice A k ca,.slice B l cb] T) ∈ ks) (a b c:Value):RgS W0 (put3at W g 0 a b c) (ks.map fun p=>if p.1=g then (g,.cells #[a,b,c] T) else p) ns:=by
 obtain⟨hge,hr⟩:=h.keep _ hg;refine⟨((h.ext.setCell hge _).setCell hge _).setCell hge _,fun p hp=>?_,fun y hy=>nm_put3b (h.nn y hy) hr a b c⟩;obtain⟨p0,h0,rfl⟩:=List.mem_map.1 hp
 by_cases hpg:p0.1=g
 ·rw [if_pos hpg];exact⟨hge,put3b_row hr a b c⟩
 ·rw [if_neg hpg];exact⟨(h.keep p0 h0).1,(put3b_other a b c hpg).trans (h.keep p0 h0).2⟩
section
variable {P:Program} {md:Region.Mode} {ops:Array Oper} {Q:Exit→Act→World→Prop} {S:World→Prop}
end
def BoxN (W:World) (p:Value) (x:Rat):Prop:=∃g s A k ca B l cb,p=.pointer (some ⟨g,0,none⟩)∧W.heap[g]?=some (.cells #[.bool s,.slice A k ca,.slice B l cb] 35 (0,0))∧Nm W (.agg #[.bool s,.slice A k ca,.slice B l cb]) x
def BoxS (W:World) (p:Value) (lo hi:Rat):Prop:=∃g s A k ca B l cb s' A' k' ca' B' l' cb',p=.pointer (some ⟨g,0,none⟩)∧W.heap[g]?=some (.cells #[.bool s,.slice A k ca,.slice B l cb,.bool s',.slice A' k' ca',.slice B' l' cb'] 37 (0,0))∧Sp W (.agg #[.bool s,.slice A k ca,.slice B l cb,.bool s',.slice A' k' ca',.slice B' l' cb']) lo hi
theorem RgS.boxn {W0 W:World} {ks:List (Nat × Obj)} {ns:List (Value × Rat)} {g:Nat} {s:Bool} {A B:Option Addr} {k ca l cb:Nat} {x:Rat} (h:RgS W0 W ks ns) (hg:(g,.cells #[.bool s,.slice A k ca,.slice B l cb] 35) ∈ ks) (hn:(.agg #[.bool s,.slice A k ca,.slice B l cb],x) ∈ ns):BoxN W (.pointer (some ⟨g,0,none⟩)) x:=⟨g,s,A,k,ca,B,l,cb,rfl,(h.keep _ hg).2,h.nn _ hn⟩
theorem RgS.put6 {W0 W:World} {ks:List (Nat × Obj)} {ns:List (Value × Rat)} {g:Nat} {s:Bool} {A:Option Addr} {k ca:Nat} {B:Option Addr} {l cb:Nat} {s':Bool} {A':Option Addr} {k' ca':Nat} {B':Option Addr} {l' cb':Nat} {T:TypeId} (h:RgS W0 W ks ns) (hg:(g,.cells #[.bool s,.slice A k ca,.slice B l cb,.bool s',.slice A' k' ca',.slice B' l' cb'] T) ∈ ks) (a b c d e f:Value):RgS W0 (Proofs.YtjamgccgoapbeaaGreatDoor.put6 W g a b c d e f) (ks.map fun p=>if p.1=g then (g,.cells #[a,b,c,d,e,f] T) else p) ns:=by
 obtain⟨hge,hr⟩:=h.keep _ hg;refine⟨af h.ext hge ..,fun p hp=>?_,fun y hy=>(h.nn y hy).put6 hr ..⟩;obtain⟨p0,h0,rfl⟩:=List.mem_map.1 hp
 by_cases hpg:p0.1=g
 ·rw [if_pos hpg];exact⟨hge,ag hr ..⟩
 ·rw [if_neg hpg];exact⟨(h.keep p0 h0).1,(put6_oth _ _ _ _ _ _ hpg).trans (h.keep p0 h0).2⟩
end Go.Proofs.YtjamgccgoapbeaaGreatDoor
