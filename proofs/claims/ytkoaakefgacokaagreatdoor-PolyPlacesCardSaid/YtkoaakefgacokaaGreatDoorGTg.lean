/- Texts: reading a number. Printed by gen_tg.py. -/
import Derived.Test.YtkoaakefgacokaaGreatDoorGTf
import Derived.Test.YtkoaakefgacokaaGreatDoorGYa
import Derived.Test.YtkoaakefgacokaaGreatDoorGRat
import Derived.Test.YtkoaakefgacokaaGreatDoorGNg
set_option linter.unusedVariables false
set_option maxRecDepth 100000
set_option maxHeartbeats 64000000
namespace Go.Proofs.YtkoaakefgacokaaGreatDoor
open Go.RowKit
def CPf (l body:List UInt8) (neg:Bool):Prop:=∀W,Calls Tryz.prog 48 #[.string ⟨l.toArray⟩,.string ⟨#[45]⟩] W fun e w'=>e=.returned (.tuple #[.string ⟨body.toArray⟩,.bool neg])∧w'=W
def CTf (body top bot:List UInt8) (two:Bool):Prop:=∀W,Calls Tryz.prog 49 #[.string ⟨body.toArray⟩,.string ⟨#[47]⟩] W fun e w'=>e=.returned (.tuple #[.string ⟨top.toArray⟩,.string ⟨bot.toArray⟩,.bool two])∧Ext W w'
def LNf (body top bot:List UInt8):Prop:=body.length≤9223372036854775807∧top.length≤9223372036854775807∧bot.length≤9223372036854775807
def PRf (l:List UInt8) (w:World) (q:Rat) (c:Int):Prop:=Calls Tryz.prog 18 #[.string ⟨l.toArray⟩] w fun e w'=>∃v,e=.returned (.tuple #[v,.int .i64 c])∧Nm w' v q∧Ext w w'
theorem parse_A (l body top bot:List UInt8) (w:World) (neg two:Bool) (htop:plainB top=false) (hln:LNf body top bot) (hcp:CPf l body neg) (hct:CTf body top bot two):PRf l w (0) 6:=by
 obtain⟨hsb,hst,hso⟩:=hln;unfold PRf;have Htop:=ZZ htop;clear htop;have K0:=ZZ (ae (w.alloc (.cells #[.bool false,.slice none 0 0,.slice none 0 0] 38)));have HCP:=ZZ hcp;have HCT:=ZZ hct;have HSB:=ZZ hsb;have HST:=ZZ hst;have HSO:=ZZ hso;clear hcp hct hsb hst hso
 go_enter Tryz.func18,Tryz.ntmps18
 go_wp2_with fail;refine(HCP.out _).mono ?_
 rintro e w1 ⟨rfl,rfl⟩;go_wp2_with fail;refine(HCT.out _).mono ?_;rintro e w2 ⟨rfl,h2⟩;have K1:=ZZ (al K0.out h2);clear h2;go_wp2_with fail;refine(plain_c top HST.out _).mono ?_;rintro e w11 ⟨rfl,h2⟩;have K2:=ZZ (al K1.out h2);clear h2;rw [Htop.out];obtain⟨z0_2,z1_2,z2_2,f0_2,f1_2,f2_2⟩:=aj (setup0 w _ K2.out);go_wp2_with fail;refine bodyPost_ret (v:=.tuple #[.agg #[.bool false,.slice none 0 0,.slice none 0 0],.int .i64 6]) (by simp [results,Tryz.f18];go_simp) rfl ?_;exact⟨_,rfl,Nm.zero _,am (al (ab _ _) K2.out) (Nat.le_refl _) _ _ _⟩
theorem parse_B1a (l body top bot:List UInt8) (w:World) (two:Bool) (htop:plainB top=true) (h0:top=[48]) (hln:LNf body top bot) (hcp:CPf l body true) (hct:CTf body top bot two):PRf l w (0) 6:=by
 obtain⟨hsb,hst,hso⟩:=hln;unfold PRf;subst h0;have Htop:=ZZ htop;clear htop;have K0:=ZZ (ae (w.alloc (.cells #[.bool false,.slice none 0 0,.slice none 0 0] 38)));have HCP:=ZZ hcp;have HCT:=ZZ hct;have HSB:=ZZ hsb;have HST:=ZZ hst;have HSO:=ZZ hso;clear hcp hct hsb hst hso
 go_enter Tryz.func18,Tryz.ntmps18
 go_wp2_with fail;refine(HCP.out _).mono ?_
 rintro e w1 ⟨rfl,rfl⟩;go_wp2_with fail;refine(HCT.out _).mono ?_;rintro e w2 ⟨rfl,h2⟩;have K1:=ZZ (al K0.out h2);clear h2;go_wp2_with fail;refine(plain_c [48] HST.out _).mono ?_;rintro e w11 ⟨rfl,h2⟩;have K2:=ZZ (al K1.out h2);clear h2;rw [Htop.out];obtain⟨z0_2,z1_2,z2_2,f0_2,f1_2,f2_2⟩:=aj (setup0 w _ K2.out);go_wp2_with fail;refine bodyPost_ret (v:=.tuple #[.agg #[.bool false,.slice none 0 0,.slice none 0 0],.int .i64 6]) (by simp [results,Tryz.f18];go_simp) rfl ?_;exact⟨_,rfl,Nm.zero _,am (al (ab _ _) K2.out) (Nat.le_refl _) _ _ _⟩
theorem parse_B1b (l body top bot:List UInt8) (w:World) (htop:plainB top=true) (h0:top=[48]) (hln:LNf body top bot) (hcp:CPf l body false) (hct:CTf body top bot true):PRf l w (0) 6:=by
 obtain⟨hsb,hst,hso⟩:=hln;unfold PRf;subst h0;have Htop:=ZZ htop;clear htop;have K0:=ZZ (ae (w.alloc (.cells #[.bool false,.slice none 0 0,.slice none 0 0] 38)));have HCP:=ZZ hcp;have HCT:=ZZ hct;have HSB:=ZZ hsb;have HST:=ZZ hst;have HSO:=ZZ hso;clear hcp hct hsb hst hso
 go_enter Tryz.func18,Tryz.ntmps18
 go_wp2_with fail;refine(HCP.out _).mono ?_
 rintro e w1 ⟨rfl,rfl⟩;go_wp2_with fail;refine(HCT.out _).mono ?_;rintro e w2 ⟨rfl,h2⟩;have K1:=ZZ (al K0.out h2);clear h2;go_wp2_with fail;refine(plain_c [48] HST.out _).mono ?_;rintro e w11 ⟨rfl,h2⟩;have K2:=ZZ (al K1.out h2);clear h2;rw [Htop.out];obtain⟨z0_2,z1_2,z2_2,f0_2,f1_2,f2_2⟩:=aj (setup0 w _ K2.out);go_wp2_with fail;refine bodyPost_ret (v:=.tuple #[.agg #[.bool false,.slice none 0 0,.slice none 0 0],.int .i64 6]) (by simp [results,Tryz.f18];go_simp) rfl ?_;exact⟨_,rfl,Nm.zero _,am (al (ab _ _) K2.out) (Nat.le_refl _) _ _ _⟩
theorem parse_C1 (l body top bot:List UInt8) (w:World) (neg:Bool) (htop:plainB top=true) (h0:¬ top=[48]) (hbot:plainB bot=false) (hln:LNf body top bot) (hcp:CPf l body neg) (hct:CTf body top bot true):PRf l w (0) 6:=by
 obtain⟨hsb,hst,hso⟩:=hln;unfold PRf;have Htop:=ZZ htop;clear htop;have Hbot:=ZZ hbot;clear hbot;have K0:=ZZ (ae (w.alloc (.cells #[.bool false,.slice none 0 0,.slice none 0 0] 38)));have HCP:=ZZ hcp;have HCT:=ZZ hct;have HSB:=ZZ hsb;have HST:=ZZ hst;have HSO:=ZZ hso;clear hcp hct hsb hst hso
 go_enter Tryz.func18,Tryz.ntmps18
 go_wp2_with fail;refine(HCP.out _).mono ?_
 rintro e w1 ⟨rfl,rfl⟩;go_wp2_with fail;refine(HCT.out _).mono ?_;rintro e w2 ⟨rfl,h2⟩;have K1:=ZZ (al K0.out h2);clear h2;go_wp2_with fail;refine(plain_c top HST.out _).mono ?_;rintro e w11 ⟨rfl,h2⟩;have K2:=ZZ (al K1.out h2);clear h2;rw [Htop.out];obtain⟨z0_2,z1_2,z2_2,f0_2,f1_2,f2_2⟩:=aj (setup0 w _ K2.out);go_wp2_with fail;refine(plain_c bot HSO.out _).mono ?_;rintro e w12 ⟨rfl,h2⟩;have K3:=ZZ (al K2.out h2);clear h2;rw [Hbot.out];obtain⟨z0_3,z1_3,z2_3,f0_3,f1_3,f2_3⟩:=aj (setup0 w _ K3.out);go_wp2_with fail;refine bodyPost_ret (v:=.tuple #[.agg #[.bool false,.slice none 0 0,.slice none 0 0],.int .i64 6]) (by simp [results,Tryz.f18];go_simp) rfl ?_;exact⟨_,rfl,Nm.zero _,am (al (ab _ _) K3.out) (Nat.le_refl _) _ _ _⟩
theorem parse_C2 (l body top bot:List UInt8) (w:World) (neg:Bool) (htop:plainB top=true) (h0:¬ top=[48]) (hbot:plainB bot=true) (h1:bot=[48]) (hln:LNf body top bot) (hcp:CPf l body neg) (hct:CTf body top bot true):PRf l w (0) 6:=by
 obtain⟨hsb,hst,hso⟩:=hln;unfold PRf;subst h1;have Htop:=ZZ htop;clear htop;have Hbot:=ZZ hbot;clear hbot;have K0:=ZZ (ae (w.alloc (.cells #[.bool false,.slice none 0 0,.slice none 0 0] 38)));have HCP:=ZZ hcp;have HCT:=ZZ hct;have HSB:=ZZ hsb;have HST:=ZZ hst;have HSO:=ZZ hso;clear hcp hct hsb hst hso
 go_enter Tryz.func18,Tryz.ntmps18
 go_wp2_with fail;refine(HCP.out _).mono ?_
 rintro e w1 ⟨rfl,rfl⟩;go_wp2_with fail;refine(HCT.out _).mono ?_;rintro e w2 ⟨rfl,h2⟩;have K1:=ZZ (al K0.out h2);clear h2;go_wp2_with fail;refine(plain_c top HST.out _).mono ?_;rintro e w11 ⟨rfl,h2⟩;have K2:=ZZ (al K1.out h2);clear h2;rw [Htop.out];obtain⟨z0_2,z1_2,z2_2,f0_2,f1_2,f2_2⟩:=aj (setup0 w _ K2.out);go_wp2_with fail;refine(plain_c [48] HSO.out _).mono ?_;rintro e w12 ⟨rfl,h2⟩;have K3:=ZZ (al K2.out h2);clear h2;rw [Hbot.out];obtain⟨z0_3,z1_3,z2_3,f0_3,f1_3,f2_3⟩:=aj (setup0 w _ K3.out);go_wp2_with fail;refine bodyPost_ret (v:=.tuple #[.agg #[.bool false,.slice none 0 0,.slice none 0 0],.int .i64 6]) (by simp [results,Tryz.f18];go_simp) rfl ?_;exact⟨_,rfl,Nm.zero _,am (al (ab _ _) K3.out) (Nat.le_refl _) _ _ _⟩
theorem parse_C3 (l body top bot:List UInt8) (w:World) (neg:Bool) (htop:plainB top=true) (h0:¬ top=[48]) (hbot:plainB bot=true) (h1:bot=[49]) (hln:LNf body top bot) (hcp:CPf l body neg) (hct:CTf body top bot true):PRf l w (0) 6:=by
 obtain⟨hsb,hst,hso⟩:=hln;unfold PRf;subst h1;have Htop:=ZZ htop;clear htop;have Hbot:=ZZ hbot;clear hbot;have K0:=ZZ (ae (w.alloc (.cells #[.bool false,.slice none 0 0,.slice none 0 0] 38)));have HCP:=ZZ hcp;have HCT:=ZZ hct;have HSB:=ZZ hsb;have HST:=ZZ hst;have HSO:=ZZ hso;clear hcp hct hsb hst hso
 go_enter Tryz.func18,Tryz.ntmps18
 go_wp2_with fail;refine(HCP.out _).mono ?_
 rintro e w1 ⟨rfl,rfl⟩;go_wp2_with fail;refine(HCT.out _).mono ?_;rintro e w2 ⟨rfl,h2⟩;have K1:=ZZ (al K0.out h2);clear h2;go_wp2_with fail;refine(plain_c top HST.out _).mono ?_;rintro e w11 ⟨rfl,h2⟩;have K2:=ZZ (al K1.out h2);clear h2;rw [Htop.out];obtain⟨z0_2,z1_2,z2_2,f0_2,f1_2,f2_2⟩:=aj (setup0 w _ K2.out);go_wp2_with fail;refine(plain_c [49] HSO.out _).mono ?_;rintro e w12 ⟨rfl,h2⟩;have K3:=ZZ (al K2.out h2);clear h2;rw [Hbot.out];obtain⟨z0_3,z1_3,z2_3,f0_3,f1_3,f2_3⟩:=aj (setup0 w _ K3.out);go_wp2_with fail;refine bodyPost_ret (v:=.tuple #[.agg #[.bool false,.slice none 0 0,.slice none 0 0],.int .i64 6]) (by simp [results,Tryz.f18];go_simp) rfl ?_;exact⟨_,rfl,Nm.zero _,am (al (ab _ _) K3.out) (Nat.le_refl _) _ _ _⟩
theorem parse_D1 (l body top bot:List UInt8) (w:World) (neg:Bool) (htop:plainB top=true) (h0:¬ top=[48]) (hl:1000<top.length) (hln:LNf body top bot) (hcp:CPf l body neg) (hct:CTf body top bot false):PRf l w (0) 3:=by
 obtain⟨hsb,hst,hso⟩:=hln;unfold PRf;have t1:decide ((1000:Int)<(top.length:Int))=true:=by rw [decide_eq_true_eq];omega
 have t2:(1000:Int)<(top.length:Int):=by omega
 have Htop:=ZZ htop;clear htop;have K0:=ZZ (ae (w.alloc (.cells #[.bool false,.slice none 0 0,.slice none 0 0] 38)));have HCP:=ZZ hcp;have HCT:=ZZ hct;have HSB:=ZZ hsb;have HST:=ZZ hst;have HSO:=ZZ hso;clear hcp hct hsb hst hso
 go_enter Tryz.func18,Tryz.ntmps18
 go_wp2_with fail;refine(HCP.out _).mono ?_
 rintro e w1 ⟨rfl,rfl⟩;go_wp2_with fail;refine(HCT.out _).mono ?_;rintro e w2 ⟨rfl,h2⟩;have K1:=ZZ (al K0.out h2);clear h2;go_wp2_with fail;refine(plain_c top HST.out _).mono ?_;rintro e w11 ⟨rfl,h2⟩;have K2:=ZZ (al K1.out h2);clear h2;rw [Htop.out];obtain⟨z0_2,z1_2,z2_2,f0_2,f1_2,f2_2⟩:=aj (setup0 w _ K2.out);go_wp2_with fail;refine bodyPost_ret (v:=.tuple #[.agg #[.bool false,.slice none 0 0,.slice none 0 0],.int .i64 3]) (by simp [results,Tryz.f18];go_simp) rfl ?_;exact⟨_,rfl,Nm.zero _,am (al (ab _ _) K2.out) (Nat.le_refl _) _ _ _⟩
theorem parse_D2 (l body top bot:List UInt8) (w:World) (neg:Bool) (htop:plainB top=true) (h0:¬ top=[48]) (hbot:plainB bot=true) (h1:¬ bot=[48]) (h2_:¬ bot=[49]) (hl:1000<top.length) (hln:LNf body top bot) (hcp:CPf l body neg) (hct:CTf body top bot true):PRf l w (0) 3:=by
 obtain⟨hsb,hst,hso⟩:=hln;unfold PRf;have t2:(1000:Int)<(top.length:Int):=by omega
 have hb1:(bot == [48])=false:=by rw [beq_eq_false_iff_ne];exact h1
 have hb2:(bot == [49])=false:=by rw [beq_eq_false_iff_ne];exact h2_
 have Htop:=ZZ htop;clear htop;have Hbot:=ZZ hbot;clear hbot;have K0:=ZZ (ae (w.alloc (.cells #[.bool false,.slice none 0 0,.slice none 0 0] 38)));have HCP:=ZZ hcp;have HCT:=ZZ hct;have HSB:=ZZ hsb;have HST:=ZZ hst;have HSO:=ZZ hso;clear hcp hct hsb hst hso
 go_enter Tryz.func18,Tryz.ntmps18
 go_wp2_with fail;refine(HCP.out _).mono ?_
 rintro e w1 ⟨rfl,rfl⟩;go_wp2_with fail;refine(HCT.out _).mono ?_;rintro e w2 ⟨rfl,h2⟩;have K1:=ZZ (al K0.out h2);clear h2;go_wp2_with fail;refine(plain_c top HST.out _).mono ?_;rintro e w11 ⟨rfl,h2⟩;have K2:=ZZ (al K1.out h2);clear h2;rw [Htop.out];obtain⟨z0_2,z1_2,z2_2,f0_2,f1_2,f2_2⟩:=aj (setup0 w _ K2.out);go_wp2_with fail;refine(plain_c bot HSO.out _).mono ?_;rintro e w12 ⟨rfl,h2⟩;have K3:=ZZ (al K2.out h2);clear h2;rw [Hbot.out];obtain⟨z0_3,z1_3,z2_3,f0_3,f1_3,f2_3⟩:=aj (setup0 w _ K3.out);go_wp2_with fail;refine bodyPost_ret (v:=.tuple #[.agg #[.bool false,.slice none 0 0,.slice none 0 0],.int .i64 3]) (by simp [results,Tryz.f18];go_simp) rfl ?_;exact⟨_,rfl,Nm.zero _,am (al (ab _ _) K3.out) (Nat.le_refl _) _ _ _⟩
theorem parse_D3 (l body top bot:List UInt8) (w:World) (neg:Bool) (htop:plainB top=true) (h0:¬ top=[48]) (hbot:plainB bot=true) (h1:¬ bot=[48]) (h2_:¬ bot=[49]) (hl:1000<bot.length) (hl2:top.length≤1000) (hln:LNf body top bot) (hcp:CPf l body neg) (hct:CTf body top bot true):PRf l w (0) 3:=by
 obtain⟨hsb,hst,hso⟩:=hln;unfold PRf;have t1:¬(1000:Int)<(top.length:Int):=by omega
 have t2:(1000:Int)<(bot.length:Int):=by omega
 have hb1:(bot == [48])=false:=by rw [beq_eq_false_iff_ne];exact h1
 have hb2:(bot == [49])=false:=by rw [beq_eq_false_iff_ne];exact h2_
 have Htop:=ZZ htop;clear htop;have Hbot:=ZZ hbot;clear hbot;have K0:=ZZ (ae (w.alloc (.cells #[.bool false,.slice none 0 0,.slice none 0 0] 38)));have HCP:=ZZ hcp;have HCT:=ZZ hct;have HSB:=ZZ hsb;have HST:=ZZ hst;have HSO:=ZZ hso;clear hcp hct hsb hst hso
 go_enter Tryz.func18,Tryz.ntmps18
 go_wp2_with fail;refine(HCP.out _).mono ?_
 rintro e w1 ⟨rfl,rfl⟩;go_wp2_with fail;refine(HCT.out _).mono ?_;rintro e w2 ⟨rfl,h2⟩;have K1:=ZZ (al K0.out h2);clear h2;go_wp2_with fail;refine(plain_c top HST.out _).mono ?_;rintro e w11 ⟨rfl,h2⟩;have K2:=ZZ (al K1.out h2);clear h2;rw [Htop.out];obtain⟨z0_2,z1_2,z2_2,f0_2,f1_2,f2_2⟩:=aj (setup0 w _ K2.out);go_wp2_with fail;refine(plain_c bot HSO.out _).mono ?_;rintro e w12 ⟨rfl,h2⟩;have K3:=ZZ (al K2.out h2);clear h2;rw [Hbot.out];obtain⟨z0_3,z1_3,z2_3,f0_3,f1_3,f2_3⟩:=aj (setup0 w _ K3.out);go_wp2_with fail;refine bodyPost_ret (v:=.tuple #[.agg #[.bool false,.slice none 0 0,.slice none 0 0],.int .i64 3]) (by simp [results,Tryz.f18];go_simp) rfl ?_;exact⟨_,rfl,Nm.zero _,am (al (ab _ _) K3.out) (Nat.le_refl _) _ _ _⟩
theorem plain_dig {l:List UInt8} (h:plainB l=true):∀c ∈ l,isDig c=true:=by
 unfold plainB digB at h
 simp only [Bool.and_eq_true] at h
 have:=h.1.2
 rwa [List.all_eq_true] at this
theorem plain_ne {l:List UInt8} (h:plainB l=true):l≠[]:=by
 intro e;subst e;simp [plainB,digB] at h
theorem plain_head {l:List UInt8} (h:plainB l=true) (h0:¬ l=[48]):l.head?≠some 48:=by
 unfold plainB at h
 simp only [Bool.and_eq_true,Bool.or_eq_true,beq_iff_eq,bne_iff_ne] at h
 rcases h.2 with h|h
 ·exact absurd h h0
 ·exact h
theorem plain_pos {l:List UInt8} (h:plainB l=true) (h0:¬ l=[48]):0<natOf l:=
 natOf_pos l (plain_dig h) (plain_ne h) (plain_head h h0)
theorem plain_dec {l:List UInt8} (h:plainB l=true):Lib.decDigits (natOf l)=l:=by
 by_cases h0:l=[48]
 ·subst h0;exact dec_zero
 ·exact dec_natOf l (plain_dig h) (plain_ne h) (.inl (plain_head h h0))
theorem plain_one {l:List UInt8} (h:plainB l=true) (h1:¬ l=[49]):natOf l≠1:=by
 intro e
 have:=plain_dec h
 rw [e] at this;exact h1 (this.symm.trans (by rw [Lib.decDigits];rfl))
theorem natOf_sm {l:List UInt8} (h:∀c ∈ l,isDig c=true) (hl:l.length≤1000):Sm (natOf l):=sm_of_lt (dig_bits l h) (by omega)
theorem parse_ok0 (l body top bot:List UInt8) (w:World) (htop:plainB top=true) (h0:top=[48]) (hl:top.length≤1000) (hbn:bot=[]) (hln:LNf body top bot) (hcp:CPf l body false) (hct:CTf body top bot false):PRf l w (rat false (natOf top) 1) 0:=by
 obtain⟨hsb,hst,hso⟩:=hln;unfold PRf;subst hbn;have HDG:=ZZ (plain_dig htop);have HSM:=ZZ (natOf_sm (plain_dig htop) hl);have HLL:=ZZ hl;subst h0;skip;have Htop:=ZZ htop;clear htop;have K0:=ZZ (ae (w.alloc (.cells #[.bool false,.slice none 0 0,.slice none 0 0] 38)));have HCP:=ZZ hcp;have HCT:=ZZ hct;have HSB:=ZZ hsb;have HST:=ZZ hst;have HSO:=ZZ hso;clear hcp hct hsb hst hso
 go_enter Tryz.func18,Tryz.ntmps18
 go_wp2_with fail;refine(HCP.out _).mono ?_
 rintro e w1 ⟨rfl,rfl⟩;go_wp2_with fail;refine(HCT.out _).mono ?_;rintro e w2 ⟨rfl,h2⟩;have K1:=ZZ (al K0.out h2);clear h2;go_wp2_with fail;refine(plain_c [48] HST.out _).mono ?_;rintro e w11 ⟨rfl,h2⟩;have K2:=ZZ (al K1.out h2);clear h2;rw [Htop.out];obtain⟨z0_2,z1_2,z2_2,f0_2,f1_2,f2_2⟩:=aj (setup0 w _ K2.out);go_wp2_with fail;refine(taken_c _ HDG.out (by have:=HLL.out;omega) _).mono ?_;rintro e w12 ⟨v3,rfl,h2,h3⟩;obtain⟨P3,p3,c3,rfl⟩:=h2.form';have G3:=ZZ h2;have K3:=ZZ (al K2.out h3);clear h2 h3;obtain⟨z0_3,z1_3,z2_3,f0_3,f1_3,f2_3⟩:=aj (setup0 w _ K3.out);go_wp2_with fail;refine(one_c _).mono ?_;rintro e w13 ⟨v4,rfl,h2,h3⟩;obtain⟨P4,p4,c4,rfl⟩:=h2.form';have G4:=ZZ h2;have G3':=ZZ (G3.out.mono h3);have K4:=ZZ (al K3.out h3);clear h2 h3;obtain⟨z0_4,z1_4,z2_4,f0_4,f1_4,f2_4⟩:=aj (setup0 w _ K4.out);go_wp2_with fail;refine(reduced_c false _ _ _ _ _ G3'.out G4.out HSM.out (sm_small 1 (by decide)) (by decide)).mono ?_;rintro e w14 ⟨v5,rfl,h2,h3⟩;obtain⟨b5,P5,p5,c5,Q5,q5,d5,rfl⟩:=h2.form2;have G5:=ZZ h2;have K5:=ZZ (al K4.out h3);clear h2 h3;obtain⟨z0_5,z1_5,z2_5,f0_5,f1_5,f2_5⟩:=aj (setup0 w _ K5.out);go_wp2_with fail;refine bodyPost_ret (v:=.tuple #[.agg #[.bool b5,.slice P5 p5 c5,.slice Q5 q5 d5],.int .i64 0]) (by simp [results,Tryz.f18];go_simp) rfl ?_;exact⟨_,rfl,G5.out.put3 (setup0 w _ K5.out),am (al (ab _ _) K5.out) (Nat.le_refl _) _ _ _⟩
theorem parse_ok1 (l body top bot:List UInt8) (w:World) (htop:plainB top=true) (neg:Bool) (h0:¬ top=[48]) (hl:top.length≤1000) (hbn:bot=[]) (hln:LNf body top bot) (hcp:CPf l body neg) (hct:CTf body top bot false):PRf l w (rat neg (natOf top) 1) 0:=by
 obtain⟨hsb,hst,hso⟩:=hln;unfold PRf;subst hbn;have HDG:=ZZ (plain_dig htop);have HSM:=ZZ (natOf_sm (plain_dig htop) hl);have HLL:=ZZ hl;have t1:¬(1000:Int)<(top.length:Int):=by omega
 have Htop:=ZZ htop;clear htop;have K0:=ZZ (ae (w.alloc (.cells #[.bool false,.slice none 0 0,.slice none 0 0] 38)));have HCP:=ZZ hcp;have HCT:=ZZ hct;have HSB:=ZZ hsb;have HST:=ZZ hst;have HSO:=ZZ hso;clear hcp hct hsb hst hso
 go_enter Tryz.func18,Tryz.ntmps18
 go_wp2_with fail;refine(HCP.out _).mono ?_
 rintro e w1 ⟨rfl,rfl⟩;go_wp2_with fail;refine(HCT.out _).mono ?_;rintro e w2 ⟨rfl,h2⟩;have K1:=ZZ (al K0.out h2);clear h2;go_wp2_with fail;refine(plain_c top HST.out _).mono ?_;rintro e w11 ⟨rfl,h2⟩;have K2:=ZZ (al K1.out h2);clear h2;rw [Htop.out];obtain⟨z0_2,z1_2,z2_2,f0_2,f1_2,f2_2⟩:=aj (setup0 w _ K2.out);go_wp2_with fail;refine(taken_c _ HDG.out (by have:=HLL.out;omega) _).mono ?_;rintro e w12 ⟨v3,rfl,h2,h3⟩;obtain⟨P3,p3,c3,rfl⟩:=h2.form';have G3:=ZZ h2;have K3:=ZZ (al K2.out h3);clear h2 h3;obtain⟨z0_3,z1_3,z2_3,f0_3,f1_3,f2_3⟩:=aj (setup0 w _ K3.out);go_wp2_with fail;refine(one_c _).mono ?_;rintro e w13 ⟨v4,rfl,h2,h3⟩;obtain⟨P4,p4,c4,rfl⟩:=h2.form';have G4:=ZZ h2;have G3':=ZZ (G3.out.mono h3);have K4:=ZZ (al K3.out h3);clear h2 h3;obtain⟨z0_4,z1_4,z2_4,f0_4,f1_4,f2_4⟩:=aj (setup0 w _ K4.out);go_wp2_with fail;refine(reduced_c neg _ _ _ _ _ G3'.out G4.out HSM.out (sm_small 1 (by decide)) (by decide)).mono ?_;rintro e w14 ⟨v5,rfl,h2,h3⟩;obtain⟨b5,P5,p5,c5,Q5,q5,d5,rfl⟩:=h2.form2;have G5:=ZZ h2;have K5:=ZZ (al K4.out h3);clear h2 h3;obtain⟨z0_5,z1_5,z2_5,f0_5,f1_5,f2_5⟩:=aj (setup0 w _ K5.out);go_wp2_with fail;refine bodyPost_ret (v:=.tuple #[.agg #[.bool b5,.slice P5 p5 c5,.slice Q5 q5 d5],.int .i64 0]) (by simp [results,Tryz.f18];go_simp) rfl ?_;exact⟨_,rfl,G5.out.put3 (setup0 w _ K5.out),am (al (ab _ _) K5.out) (Nat.le_refl _) _ _ _⟩
theorem parse_ok2 (l body top bot:List UInt8) (w:World) (neg:Bool) (htop:plainB top=true) (h0:¬ top=[48]) (hbot:plainB bot=true) (h1:¬ bot=[48]) (h2_:¬ bot=[49]) (hl:top.length≤1000) (hl2:bot.length≤1000) (hg:Nat.gcd (natOf top) (natOf bot)=1) (hln:LNf body top bot) (hcp:CPf l body neg) (hct:CTf body top bot true):PRf l w (rat neg (natOf top) (natOf bot)) 0:=by
 obtain⟨hsb,hst,hso⟩:=hln;unfold PRf;have HDG:=ZZ (plain_dig htop);have HSM:=ZZ (natOf_sm (plain_dig htop) hl);have HLL:=ZZ hl;have HDG2:=ZZ (plain_dig hbot);have HSM2:=ZZ (natOf_sm (plain_dig hbot) hl2);have HLL2:=ZZ hl2;have HP1:=ZZ (plain_pos htop h0);have HP2:=ZZ (plain_pos hbot h1);have HN1:=ZZ (plain_one hbot h2_);have HG:=ZZ hg;clear hg;have t1:¬(1000:Int)<(top.length:Int):=by omega
 have t2:¬(1000:Int)<(bot.length:Int):=by omega
 have hb1:(bot == [48])=false:=by rw [beq_eq_false_iff_ne];exact h1
 have hb2:(bot == [49])=false:=by rw [beq_eq_false_iff_ne];exact h2_
 have Htop:=ZZ htop;clear htop;have Hbot:=ZZ hbot;clear hbot;have K0:=ZZ (ae (w.alloc (.cells #[.bool false,.slice none 0 0,.slice none 0 0] 38)));have HCP:=ZZ hcp;have HCT:=ZZ hct;have HSB:=ZZ hsb;have HST:=ZZ hst;have HSO:=ZZ hso;clear hcp hct hsb hst hso
 go_enter Tryz.func18,Tryz.ntmps18
 go_wp2_with fail;refine(HCP.out _).mono ?_
 rintro e w1 ⟨rfl,rfl⟩;go_wp2_with fail;refine(HCT.out _).mono ?_;rintro e w2 ⟨rfl,h2⟩;have K1:=ZZ (al K0.out h2);clear h2;go_wp2_with fail;refine(plain_c top HST.out _).mono ?_;rintro e w11 ⟨rfl,h2⟩;have K2:=ZZ (al K1.out h2);clear h2;rw [Htop.out];obtain⟨z0_2,z1_2,z2_2,f0_2,f1_2,f2_2⟩:=aj (setup0 w _ K2.out);go_wp2_with fail;refine(plain_c bot HSO.out _).mono ?_;rintro e w12 ⟨rfl,h2⟩;have K3:=ZZ (al K2.out h2);clear h2;rw [Hbot.out];obtain⟨z0_3,z1_3,z2_3,f0_3,f1_3,f2_3⟩:=aj (setup0 w _ K3.out);go_wp2_with fail;refine(taken_c _ HDG.out (by have:=HLL.out;omega) _).mono ?_;rintro e w13 ⟨v3,rfl,h2,h3⟩;obtain⟨P3,p3,c3,rfl⟩:=h2.form';have G3:=ZZ h2;have K4:=ZZ (al K3.out h3);clear h2 h3;obtain⟨z0_4,z1_4,z2_4,f0_4,f1_4,f2_4⟩:=aj (setup0 w _ K4.out);go_wp2_with fail;refine(taken_c _ HDG2.out (by have:=HLL2.out;omega) _).mono ?_;rintro e w14 ⟨v4,rfl,h2,h3⟩;obtain⟨P4,p4,c4,rfl⟩:=h2.form';have G4:=ZZ h2;have G3':=ZZ (G3.out.mono h3);have K5:=ZZ (al K4.out h3);clear h2 h3;obtain⟨z0_5,z1_5,z2_5,f0_5,f1_5,f2_5⟩:=aj (setup0 w _ K5.out);go_wp2_with fail;refine(divisor_c _ _ _ _ _ G3'.out G4.out HSM.out HSM2.out HP1.out).mono ?_;rintro e w15 ⟨v5,rfl,h2,h3⟩;obtain⟨P5,p5,c5,rfl⟩:=h2.form';have G5:=ZZ h2;have H33:=ZZ h3;have K6:=ZZ (al K5.out h3);clear h2 h3;obtain⟨z0_6,z1_6,z2_6,f0_6,f1_6,f2_6⟩:=aj (setup0 w _ K6.out);go_wp2_with fail;refine(is1_c _ _ true (by first|exact decide_eq_true HG.out|exact decide_eq_false HG.out) _ G5.out).mono ?_;rintro e w30 ⟨rfl,rfl⟩;go_wp2_with fail
 refine bodyPost_ret (v:=.tuple #[.agg #[.bool neg,.slice P3 p3 c3,.slice P4 p4 c4],.int .i64 0]) (by simp [results,Tryz.f18];go_simp) rfl ?_;refine⟨_,rfl,?_,am (al (ab _ _) K6.out) (Nat.le_refl _) _ _ _⟩;refine Nm.put3 ?_ (setup0 w _ K6.out);exact nm_mk rfl HP1.out HP2.out (by rw [HG.out,Nat.div_one]) (by rw [HG.out,Nat.div_one]) (G3'.out.mono H33.out) (by rw [if_neg HN1.out];exact G4.out.mono H33.out)
theorem parse_ng (l body top bot:List UInt8) (w:World) (neg:Bool) (htop:plainB top=true) (h0:¬ top=[48]) (hbot:plainB bot=true) (h1:¬ bot=[48]) (h2_:¬ bot=[49]) (hl:top.length≤1000) (hl2:bot.length≤1000) (hg:¬ Nat.gcd (natOf top) (natOf bot)=1) (hln:LNf body top bot) (hcp:CPf l body neg) (hct:CTf body top bot true):PRf l w (0) 6:=by
 obtain⟨hsb,hst,hso⟩:=hln;unfold PRf;have HDG:=ZZ (plain_dig htop);have HSM:=ZZ (natOf_sm (plain_dig htop) hl);have HLL:=ZZ hl;have HDG2:=ZZ (plain_dig hbot);have HSM2:=ZZ (natOf_sm (plain_dig hbot) hl2);have HLL2:=ZZ hl2;have HP1:=ZZ (plain_pos htop h0);have HP2:=ZZ (plain_pos hbot h1);have HN1:=ZZ (plain_one hbot h2_);have HG:=ZZ hg;clear hg;have t1:¬(1000:Int)<(top.length:Int):=by omega
 have t2:¬(1000:Int)<(bot.length:Int):=by omega
 have hb1:(bot == [48])=false:=by rw [beq_eq_false_iff_ne];exact h1
 have hb2:(bot == [49])=false:=by rw [beq_eq_false_iff_ne];exact h2_
 have Htop:=ZZ htop;clear htop;have Hbot:=ZZ hbot;clear hbot;have K0:=ZZ (ae (w.alloc (.cells #[.bool false,.slice none 0 0,.slice none 0 0] 38)));have HCP:=ZZ hcp;have HCT:=ZZ hct;have HSB:=ZZ hsb;have HST:=ZZ hst;have HSO:=ZZ hso;clear hcp hct hsb hst hso
 go_enter Tryz.func18,Tryz.ntmps18
 go_wp2_with fail;refine(HCP.out _).mono ?_
 rintro e w1 ⟨rfl,rfl⟩;go_wp2_with fail;refine(HCT.out _).mono ?_;rintro e w2 ⟨rfl,h2⟩;have K1:=ZZ (al K0.out h2);clear h2;go_wp2_with fail;refine(plain_c top HST.out _).mono ?_;rintro e w11 ⟨rfl,h2⟩;have K2:=ZZ (al K1.out h2);clear h2;rw [Htop.out];obtain⟨z0_2,z1_2,z2_2,f0_2,f1_2,f2_2⟩:=aj (setup0 w _ K2.out);go_wp2_with fail;refine(plain_c bot HSO.out _).mono ?_;rintro e w12 ⟨rfl,h2⟩;have K3:=ZZ (al K2.out h2);clear h2;rw [Hbot.out];obtain⟨z0_3,z1_3,z2_3,f0_3,f1_3,f2_3⟩:=aj (setup0 w _ K3.out);go_wp2_with fail;refine(taken_c _ HDG.out (by have:=HLL.out;omega) _).mono ?_;rintro e w13 ⟨v3,rfl,h2,h3⟩;obtain⟨P3,p3,c3,rfl⟩:=h2.form';have G3:=ZZ h2;have K4:=ZZ (al K3.out h3);clear h2 h3;obtain⟨z0_4,z1_4,z2_4,f0_4,f1_4,f2_4⟩:=aj (setup0 w _ K4.out);go_wp2_with fail;refine(taken_c _ HDG2.out (by have:=HLL2.out;omega) _).mono ?_;rintro e w14 ⟨v4,rfl,h2,h3⟩;obtain⟨P4,p4,c4,rfl⟩:=h2.form';have G4:=ZZ h2;have G3':=ZZ (G3.out.mono h3);have K5:=ZZ (al K4.out h3);clear h2 h3;obtain⟨z0_5,z1_5,z2_5,f0_5,f1_5,f2_5⟩:=aj (setup0 w _ K5.out);go_wp2_with fail;refine(divisor_c _ _ _ _ _ G3'.out G4.out HSM.out HSM2.out HP1.out).mono ?_;rintro e w15 ⟨v5,rfl,h2,h3⟩;obtain⟨P5,p5,c5,rfl⟩:=h2.form';have G5:=ZZ h2;have H33:=ZZ h3;have K6:=ZZ (al K5.out h3);clear h2 h3;obtain⟨z0_6,z1_6,z2_6,f0_6,f1_6,f2_6⟩:=aj (setup0 w _ K6.out);go_wp2_with fail;refine(is1_c _ _ false (by first|exact decide_eq_true HG.out|exact decide_eq_false HG.out) _ G5.out).mono ?_;rintro e w30 ⟨rfl,rfl⟩;go_wp2_with fail
 refine bodyPost_ret (v:=.tuple #[.agg #[.bool false,.slice none 0 0,.slice none 0 0],.int .i64 6]) (by simp [results,Tryz.f18];go_simp) rfl ?_;exact⟨_,rfl,Nm.zero _,am (al (ab _ _) K6.out) (Nat.le_refl _) _ _ _⟩
def minusB (l:List UInt8):Bool:=Lib.hasPrefix l [45]
def restB (l:List UInt8):List UInt8:=Lib.trimPrefix l [45]
def parseS (l:List UInt8):Int × Rat:=
 let c:=cutB 47 (restB l)
 if plainB c.1=false then (6,0)
 else if c.1=[48]∧(minusB l=true∨c.2.2=true) then (6,0)
 else if c.2.2=true∧(plainB c.2.1=false∨c.2.1=[48]∨c.2.1=[49]) then (6,0)
 else if 1000<c.1.length∨1000<c.2.1.length then (3,0)
 else if c.2.2=false then (0,rat (minusB l) (natOf c.1) 1)
 else if Nat.gcd (natOf c.1) (natOf c.2.1)=1 then (0,rat (minusB l) (natOf c.1) (natOf c.2.1))
 else (6,0)
theorem cutB_len (c:UInt8) (l:List UInt8):(cutB c l).1.length≤l.length∧(cutB c l).2.1.length≤l.length∧((cutB c l).2.2=false→(cutB c l).2.1=[]):=by
 rcases split_at l c with h|⟨a,b,rfl,h⟩
 ·rw [cutB_no l c h];simp
 ·rw [cutB_yes a b c h];simp;omega
theorem restB_len (l:List UInt8):(restB l).length≤l.length:=by
 unfold restB Lib.trimPrefix
 split
 ·rw [List.length_drop];omega
 ·exact Nat.le_refl _
def ParseR (l:List UInt8) (w w':World) (e:Ending):Prop:=∃v,e=.returned (.tuple #[v,.int .i64 (parseS l).1])∧Nm w' v (parseS l).2∧Ext w w'
theorem parse_c (l:List UInt8) (hs:l.length≤9223372036854775807) (w:World):Calls Tryz.prog 18 #[.string ⟨l.toArray⟩] w fun e w'=>ParseR l w w' e:=by
 have hcp:∀W,Calls Tryz.prog 48 #[.string ⟨l.toArray⟩,.string ⟨#[45]⟩] W fun e w'=>e=.returned (.tuple #[.string ⟨(restB l).toArray⟩,.bool (minusB l)])∧w'=W:=fun W=>Tryz.strings_CutPrefix ⟨l.toArray⟩ ⟨#[45]⟩ W;have hrl:=restB_len l;have hcl:=cutB_len 47 (restB l);have hct:∀W,Calls Tryz.prog 49 #[.string ⟨(restB l).toArray⟩,.string ⟨#[47]⟩] W fun e w'=>e=.returned (.tuple #[.string ⟨(cutB 47 (restB l)).1.toArray⟩,.string ⟨(cutB 47 (restB l)).2.1.toArray⟩,.bool (cutB 47 (restB l)).2.2])∧Ext W w':=fun W=>cut_str (restB l) 47 (by omega) W;unfold ParseR parseS;generalize restB l=body at *;generalize minusB l=neg at *;generalize cutB 47 body=c at *;obtain⟨top,bot,two⟩:=c
 dsimp only at hct hcl ⊢
 have a1:body.length≤9223372036854775807:=by omega
 have a2:top.length≤9223372036854775807:=by omega
 have a3:bot.length≤9223372036854775807:=by omega
 have a0:LNf body top bot:=And.intro a1 (And.intro a2 a3)
 by_cases p1:plainB top=false
 ·rw [if_pos p1];exact parse_A l body top bot w neg two p1 a0 hcp hct
 rw [if_neg p1]
 replace p1:plainB top=true:=by simpa using p1
 by_cases p2:top=[48]∧(neg=true∨two=true)
 ·rw [if_pos p2]
  obtain⟨q1,q2⟩:=p2
  rcases neg with _|_
  ·obtain rfl:two=true:=by simpa using q2
   exact parse_B1b l body top bot w p1 q1 a0 hcp hct
  ·exact parse_B1a l body top bot w two p1 q1 a0 hcp hct
 rw [if_neg p2]
 by_cases p3:two=true∧(plainB bot=false∨bot=[48]∨bot=[49])
 ·rw [if_pos p3]
  obtain⟨rfl,q⟩:=p3;have h0:¬ top=[48]:=fun h=>p2 ⟨h,.inr rfl⟩
  by_cases q1:plainB bot=false
  ·exact parse_C1 l body top bot w neg p1 h0 q1 a0 hcp hct
  ·replace q1:plainB bot=true:=by simpa using q1
   rcases q with q|q|q
   ·rw [q1] at q;cases q
   ·exact parse_C2 l body top bot w neg p1 h0 q1 q a0 hcp hct
   ·exact parse_C3 l body top bot w neg p1 h0 q1 q a0 hcp hct
 rw [if_neg p3]
 rcases two with _|_
 ·obtain rfl:bot=[]:=hcl.2.2 rfl
  by_cases p4:1000<top.length
  ·rw [if_pos (.inl p4)]
   have h0:¬ top=[48]:=fun h=>by rw [h] at p4;simp at p4
   exact parse_D1 l body top [] w neg p1 h0 p4 a0 hcp hct
  ·rw [if_neg (by simp;omega),if_pos rfl]
   by_cases h0:top=[48]
   ·obtain rfl:neg=false:=by
     rcases neg with _|_
     ·rfl
     ·exact absurd ⟨h0,.inl rfl⟩ p2
    exact parse_ok0 l body top [] w p1 h0 (by omega) rfl a0 hcp hct
   ·exact parse_ok1 l body top [] w p1 neg h0 (by omega) rfl a0 hcp hct
 ·have h0:¬ top=[48]:=fun h=>p2 ⟨h,.inr rfl⟩
  have h1:¬ bot=[48]:=fun h=>p3 ⟨rfl,.inr (.inl h)⟩;have h2:¬ bot=[49]:=fun h=>p3 ⟨rfl,.inr (.inr h)⟩
  have hb:plainB bot=true:=by
   rcases h:plainB bot with _|_
   ·exact absurd ⟨rfl,.inl h⟩ p3
   ·rfl
  by_cases p4:1000<top.length
  ·rw [if_pos (.inl p4)]
   exact parse_D2 l body top bot w neg p1 h0 hb h1 h2 p4 a0 hcp hct
  ·by_cases p5:1000<bot.length
   ·rw [if_pos (.inr p5)]
    exact parse_D3 l body top bot w neg p1 h0 hb h1 h2 p5 (by omega) a0 hcp hct
   ·rw [if_neg (by omega),if_neg (by simp)]
    by_cases hg:Nat.gcd (natOf top) (natOf bot)=1
    ·rw [if_pos hg]
     exact parse_ok2 l body top bot w neg p1 h0 hb h1 h2 (by omega) (by omega) hg a0 hcp hct
    ·rw [if_neg hg]
     exact parse_ng l body top bot w neg p1 h0 hb h1 h2 (by omega) (by omega) hg a0 hcp hct
theorem parse_small_at (B:Nat) (hB:4001≤B) (l:List UInt8):Bq B (parseS l).2:=by
 unfold parseS;generalize restB l=body;generalize cutB 47 body=c;obtain⟨top,bot,two⟩:=c
 dsimp only
 have hz:Bq B 0:=bq_zero _ (by omega);have ht:plainB top=true→¬(1000<top.length∨1000<bot.length)→natOf top<2 ^ B:=fun h1 h2=>lt_mono (dig_bits top (plain_dig h1)) (by omega)
 by_cases p1:plainB top=false
 ·rw [if_pos p1];exact hz
 rw [if_neg p1]
 replace p1:plainB top=true:=by simpa using p1
 split
 ·exact hz
 split
 ·exact hz
 rename_i h3
 split
 ·exact hz
 rename_i h4
 split
 ·exact bq_rat (ht p1 h4) (Nat.one_lt_two_pow (by omega)) (by decide)
 rename_i h5
 split
 ·obtain rfl:two=true:=by simpa using h5
  have hb:plainB bot=true:=by
   rcases h:plainB bot with _|_
   ·exact absurd ⟨rfl,.inl h⟩ h3
   ·rfl
  have h1:¬ bot=[48]:=fun h=>h3 ⟨rfl,.inr (.inl h)⟩
  have:=plain_pos hb h1
  exact bq_rat (ht p1 h4) (lt_mono (dig_bits bot (plain_dig hb)) (by omega)) (by omega)
 ·exact hz
theorem aw (l:List UInt8):Bq 4001 (parseS l).2:=parse_small_at 4001 (Nat.le_refl _) l
end Go.Proofs.YtkoaakefgacokaaGreatDoor
