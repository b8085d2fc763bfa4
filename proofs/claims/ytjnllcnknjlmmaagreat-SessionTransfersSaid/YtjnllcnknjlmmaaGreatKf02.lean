/- Layer 41. -/
import Derived.Test.YtjnllcnknjlmmaaGreatKf01
set_option linter.unusedSimpArgs false
set_option linter.unusedVariables false
set_option maxRecDepth 100000
set_option maxHeartbeats 4000000
namespace Go.Proofs.YtjnllcnknjlmmaaGreat
open Go Go.RowKit
namespace Sn
open Pd (Fm PDU enc pc iv fl)
open Se (St At Reads Cell)
open Su (u16)
open Li (v8 Rd Blk)
open Bv (n8 n16 n32)
variable {w0 w:World} {X:List Nat} {L:List At}
attribute [local irreducible] Calls
attribute [local irreducible] mnN
attribute [local go_sem] min_nat
structure OuR (c:Cf) (al dg:BitVec 8) (da:Bs) (a:Nat) (t:Ss):Prop where
 v:Lv c al dg t
 i:Inv t
 nb:t.r.nb<=2097152*(a+3)
 np:t.r.np<=a+3
 e1:a=da.length->t.tx=[]/\t.rp=[(300#16,0)]/\t.out=[]
 e2:a<da.length->t.tx=[(300#16,txE da.length da a (min (a+c.tr) da.length))]/\t.rp=[]/\t.out=encs (lfE c al dg) [rdyP a (min (a+c.tr) da.length)]
structure InR (c:Cf) (al dg:BitVec 8) (da:Bs) (a e:Nat) (t:Ss):Prop where
 v:Lv c al dg t
 i:Inv t
 nb:t.r.nb<=2097152*(a+3)
 np:t.r.np<=a+3
 t:TrR c al dg da a e [] t
theorem encs_one(f:Fm)(p:PDU):encs f [p]=enc p f:=by unfold encs;simp
theorem InR.ou{c:Cf}{al dg:BitVec 8}{da:Bs}{a:Nat}{t:Ss}(h:InR c al dg da a a t):OuR c al dg da a t :=
 ⟨h.v,h.i,h.nb,h.np,h.t.1,fun h1=>by
  obtain⟨h2,h3,h4⟩:=h.t.2.1 h1 rfl
  exact⟨h2,h3,by rw[h4,encs_one];rfl⟩⟩
theorem OuR.inn{c:Cf}{al dg:BitVec 8}{da:Bs}{a:Nat}{t:Ss}(h:OuR c al dg da a t)(ha:a<da.length)(ht:1<=c.tr):InR c al dg da a (min (a+c.tr) da.length) { t with out:=[] }:=by
 obtain⟨h1,h2,h3⟩:=h.e2 ha
 refine⟨⟨h.v.c,h.v.st,h.v.re,h.v.f,h.v.rf,h.v.re0,h.v.rb,h.v.rm⟩,⟨h.i.c,h.i.mo,h.i.b,h.i.t,h.i.n,h.i.nd⟩,h.nb,h.np,fun h4=>absurd h4 (by omega),fun _ h4=>absurd h4 (by omega),fun _ _=>⟨h1,h2,rfl⟩⟩
theorem InR.bd{c:Cf}{al dg:BitVec 8}{da:Bs}{a e:Nat}{t:Ss}(h:InR c al dg da a e t)(ha:a<=12000):Bd t:=by
 have h1:=h.nb
 have h2:=h.np
 refine⟨h.i,?_,?_⟩
 ·rw[h.v.rb];simp only[List.length_nil];omega
 ·rw[h.v.rb];simp only[List.length_nil];omega
def lst(da:Bs)(a:Nat):List Rq:=if a=da.length then [⟨300#16,entE 1#8 300#16 da.length 90#8,da,0⟩] else []
theorem in_step{c:Cf}{al dg:BitVec 8}{da:Bs}{a m e:Nat}{t:Ss}(h:InR c al dg da a e t)(hc:c.ok)(ha:al.toNat<=31)(h1:1<=m)(h2:a+m<=e)(h3:e<=da.length)(h4:m<=c.md)(hn:da.length<=12000) :
  ∃ t',feedE t (enc (hdP da a m e) (owE c dg))=(t',lst da (a+m),0)/\InR c al dg da (a+m) e t':=by
 obtain⟨h5,h6,h7⟩:=h.t.2.2 (by omega) (by omega)
 obtain⟨t',f1,v1,r1,n1,m1⟩:=lv_data h.v hc ha h5 h6 h1 h2 h3 h4 (by omega)
 have hle:=enc_le (framed_fm (d:=digE c dg) hc.al) (hd_valid (da:=da) (a:=a) (m:=m) (e:=e) h1 (by omega) (by have:=hc.md;omega))
 have hb:=bd_feed (x:=enc (hdP da a m e) (owE c dg)) (by have:=h.nb;have:=h.np;rw[h.v.rb];simp only[List.length_nil];omega) h.i (Nat.le_trans hle (by decide)) f1
 rw[h7] at r1;refine⟨t',f1,v1,hb.i,?_,?_,r1⟩
 ·have:=h.nb;omega
 ·have:=h.np;omega
theorem ou_start{c:Cf}{al dg:BitVec 8}(hc:c.ok)(ha:al.toNat<=31)(hd:dg.toNat<=3)(da:Bs)(h1:1<=da.length)(hn:da.length<=12000):∃ t,feedE (liveE c al dg) (enc (wrP 300#16 da.length) (owE c dg))=(t,[],0)/\Bd (liveE c al dg)/\(liveE c al dg).out=[]/\OuR c al dg da 0 t:=by
 obtain⟨l1,l2,l3,l4,l5,l6,l7⟩:=lv_live hc.al (al:=al) (dg:=dg) ha hd
 have i0:=inv_live hc hc.al (al:=al) (dg:=dg) ha hd
 have b0:Bd (liveE c al dg):=⟨i0,by rw[l1.rb];simp only[List.length_nil];omega,by rw[l1.rb,l7];decide⟩
 obtain⟨t,f1,v1,x1,p1,o1,n1,m1⟩:=lv_write l1 hc ha l3 l4 h1 (by omega) da
 have hle:=enc_le (framed_fm (d:=digE c dg) hc.al) (wr_valid 300#16 da.length)
 have hb:=bd_feed (by rw[l1.rb,l7];simp only[List.length_nil];omega) i0 (Nat.le_trans hle (by decide)) f1
 refine⟨t,f1,b0,l2,v1,hb.i,by omega,by omega,fun h=>absurd h (by omega),fun _=>⟨by rw[Nat.zero_add];exact x1,p1,?_⟩⟩;rw[o1,l2,Nat.zero_add,encs_one]
 rfl
theorem bd_hd(z f:BitVec 32)(la:Bool)(A:Option Addr)(n c:Nat)(w:World):(Instr.build 65 #[(0,.int .u8 6),(4,.int .u16 300),(5,.int .u16 0),(6,.int .u32 (n32 f)),(1,.bool la),(13,.slice A n c)]).run Tryz.prog w=.ok (.agg (pc { k:=6#8,la:=la,id:=300#16,tg:=0#16,of:=f } none 0 0 A n c).toArray) w:=by kernel_rfl
theorem transfers_st(hs:St w0 X L w)(r:Rw)(al dg:BitVec 8)(da:Bs){A:Option Addr}{n ca:Nat}(hn:n=da.length)(hx:Reads L A (da.map v8))(hca:n<=ca)(zs:List (BitVec 16)){A2:Option Addr}{n2 c2:Nat}(hn2:n2=zs.length)(hx2:Reads L A2 (zs.map fun z=>.int .u16 (n16 z))) :
  Calls Tryz.prog 9 #[.agg (rwl r).toArray,.int .u8 (n8 al),.int .u8 (n8 dg),.slice A n ca,.slice A2 n2 c2] w fun e' w'=>e'=.returned (.bool true)/\St w0 X L w':=by
 obtain⟨R,hR⟩:∃ R,R=rwl r:=⟨_,rfl⟩
 have RL:=Lib.hid (show R.length=7 by rw[hR];rfl)
 have CK:Hid (∀ (M:List At) (w:World),St w0 X M w->Calls Tryz.prog 35 #[] w fun e' w'=>e'=.returned (.bool true)/\St w0 X M w'):=Lib.hid (fun M w hs=>known_st hs)
 by_cases h0:n<1
 ·have t0:(n:Int)<1:=by omega
  rw[<-hR];clear hR hx hn h0 hca hn2 hx2
  go_enter Tryz.func9,Tryz.ntmps9
  go_wp2_with (first|((with_reducible refine Se.iL 5 ?_);(refine Se.toL rfl (Se.bx (o:=⟨some 5,_,_,_,_,_⟩) hs rfl rfl (l:=R) rfl ?_);clear hs;rintro w g5-hs))|((first|with_reducible refine Se.ab hs ?_|with_reducible refine Se.abc hs ?_);clear hs;(first|(generalize w.heap.size=g5;intro w hs)))|(go_at_call 35;refine Calls.mono (CK.out _ _ hs) ?_;clear hs;rintro e w ⟨rfl,hs⟩))
  go_ret;exact⟨rfl,hs.drop⟩
 have t0:¬ (n:Int)<1:=by omega
 by_cases h1:12000<n
 ·have t1:(12000:Int)<(n:Int):=by omega
  rw[<-hR];clear hR hx hn h1 h0 hca hn2 hx2
  go_enter Tryz.func9,Tryz.ntmps9
  go_wp2_with (first|((with_reducible refine Se.iL 5 ?_);(refine Se.toL rfl (Se.bx (o:=⟨some 5,_,_,_,_,_⟩) hs rfl rfl (l:=R) rfl ?_);clear hs;rintro w g5-hs))|((first|with_reducible refine Se.ab hs ?_|with_reducible refine Se.abc hs ?_);clear hs;(first|(generalize w.heap.size=g5;intro w hs)))|(go_at_call 35;refine Calls.mono (CK.out _ _ hs) ?_;clear hs;rintro e w ⟨rfl,hs⟩))
  go_ret;exact⟨rfl,hs.drop⟩
 have t1:¬ (12000:Int)<(n:Int):=by omega
 by_cases h2:50<n2
 ·have t2:(50:Int)<(n2:Int):=by omega
  rw[<-hR];clear hR hx hn h1 h0 h2 hca hn2 hx2
  go_enter Tryz.func9,Tryz.ntmps9
  go_wp2_with (first|((with_reducible refine Se.iL 5 ?_);(refine Se.toL rfl (Se.bx (o:=⟨some 5,_,_,_,_,_⟩) hs rfl rfl (l:=R) rfl ?_);clear hs;rintro w g5-hs))|((first|with_reducible refine Se.ab hs ?_|with_reducible refine Se.abc hs ?_);clear hs;(first|(generalize w.heap.size=g5;intro w hs)))|(go_at_call 35;refine Calls.mono (CK.out _ _ hs) ?_;clear hs;rintro e w ⟨rfl,hs⟩))
  go_ret;exact⟨rfl,hs.drop⟩
 have t2:¬ (50:Int)<(n2:Int):=by omega
 have H1:=Lib.hid (show 1<=n/\n<=12000/\n2<=50 by omega)
 clear h0 h1 h2
 by_cases hv0:vB r=false\/31<al.toNat\/3<dg.toNat
 ·have CL:Hid (∀ (M:List At) (w:World),St w0 X M w->Calls Tryz.prog 43 #[.agg R.toArray,.int .u8 (n8 al),.int .u8 (n8 dg)] w fun e w'=>e=.returned (.tuple #[.pointer none,.agg #[.bool false,.bool false,.int .i64 0]])/\St w0 X M w'):=Lib.hid (fun M w hs=>by rw[hR];exact live_no hs r al dg hv0)
  obtain⟨b,hb⟩:∃ b,vB r=b:=⟨_,rfl⟩
  have CV:Hid (∀ (M:List At) (w:World),St w0 X M w->Calls Tryz.prog 25 #[.agg R.toArray] w fun e w'=>e=.returned (.bool b)/\St w0 X M w'):=Lib.hid (fun M w hs=>by rw[hR,<-hb];exact rvalid_st hs r)
  rw[hb] at hv0;rw[<-hR];clear hR hx hn hb hca hn2 hx2
  cases b with
  | false =>
   clear hv0
   go_enter Tryz.func9,Tryz.ntmps9
   go_wp2_with (first|((with_reducible refine Se.iL 5 ?_);(refine Se.toL rfl (Se.bx (o:=⟨some 5,_,_,_,_,_⟩) hs rfl rfl (l:=R) rfl ?_);clear hs;rintro w g5-hs))|((with_reducible refine Se.iL 38 ?_);(refine Se.Ldw hs rfl rfl (Reads.blk 0 rfl) (by rw[RL.out];kernel_rfl) ?_))|((with_reducible refine Se.iL 46 ?_);(refine Se.Ldw hs rfl rfl (Reads.blk 1 rfl) (by rw[RL.out];kernel_rfl) ?_))|((with_reducible refine Se.iL 12 ?_);(refine Se.Al hs rfl (fm_z) ?_;clear hs;rintro w g12-hs))|((with_reducible refine Se.iN ?_);(refine Se.Sow 0 hs rfl rfl rfl rfl (by simp[Value.oneCell']) (by kernel_rfl) (rfl) ?_;clear hs;intro w hs;try simp only[pS] at hs))|((first|with_reducible refine Se.ab hs ?_|with_reducible refine Se.abc hs ?_);clear hs;(first|(generalize w.heap.size=g5;intro w hs)))|(go_at_call 43;refine Calls.mono (CL.out _ _ hs) ?_;clear hs;rintro e w ⟨rfl,hs⟩)|(go_at_call 25;refine Calls.mono (CV.out _ _ hs) ?_;clear hs;rintro e w ⟨rfl,hs⟩)|(go_at_call 35;refine Calls.mono (CK.out _ _ hs) ?_;clear hs;rintro e w ⟨rfl,hs⟩))
   go_ret;exact⟨rfl,hs.drop.drop⟩
  | true =>
   by_cases ha:31<al.toNat
   ·have d1:(31:Int)<n8 al:=by show(31:Int)<(al.toNat:Int);omega
    clear hv0 ha
    go_enter Tryz.func9,Tryz.ntmps9
    go_wp2_with (first|((with_reducible refine Se.iL 5 ?_);(refine Se.toL rfl (Se.bx (o:=⟨some 5,_,_,_,_,_⟩) hs rfl rfl (l:=R) rfl ?_);clear hs;rintro w g5-hs))|((with_reducible refine Se.iL 38 ?_);(refine Se.Ldw hs rfl rfl (Reads.blk 0 rfl) (by rw[RL.out];kernel_rfl) ?_))|((with_reducible refine Se.iL 46 ?_);(refine Se.Ldw hs rfl rfl (Reads.blk 1 rfl) (by rw[RL.out];kernel_rfl) ?_))|((with_reducible refine Se.iL 12 ?_);(refine Se.Al hs rfl (fm_z) ?_;clear hs;rintro w g12-hs))|((with_reducible refine Se.iN ?_);(refine Se.Sow 0 hs rfl rfl rfl rfl (by simp[Value.oneCell']) (by kernel_rfl) (rfl) ?_;clear hs;intro w hs;try simp only[pS] at hs))|((first|with_reducible refine Se.ab hs ?_|with_reducible refine Se.abc hs ?_);clear hs;(first|(generalize w.heap.size=g5;intro w hs)))|(go_at_call 43;refine Calls.mono (CL.out _ _ hs) ?_;clear hs;rintro e w ⟨rfl,hs⟩)|(go_at_call 25;refine Calls.mono (CV.out _ _ hs) ?_;clear hs;rintro e w ⟨rfl,hs⟩)|(go_at_call 35;refine Calls.mono (CK.out _ _ hs) ?_;clear hs;rintro e w ⟨rfl,hs⟩))
    go_ret;exact⟨rfl,hs.drop.drop⟩
   ·have d1:¬ (31:Int)<n8 al:=by show ¬ (31:Int)<(al.toNat:Int);omega
    have d2:(3:Int)<n8 dg:=by
     show(3:Int)<(dg.toNat:Int)
     rcases hv0 with h|h|h
     ·cases h
     ·exact absurd h ha
     ·omega
    clear hv0 ha
    go_enter Tryz.func9,Tryz.ntmps9
    go_wp2_with (first|((with_reducible refine Se.iL 5 ?_);(refine Se.toL rfl (Se.bx (o:=⟨some 5,_,_,_,_,_⟩) hs rfl rfl (l:=R) rfl ?_);clear hs;rintro w g5-hs))|((with_reducible refine Se.iL 38 ?_);(refine Se.Ldw hs rfl rfl (Reads.blk 0 rfl) (by rw[RL.out];kernel_rfl) ?_))|((with_reducible refine Se.iL 46 ?_);(refine Se.Ldw hs rfl rfl (Reads.blk 1 rfl) (by rw[RL.out];kernel_rfl) ?_))|((with_reducible refine Se.iL 12 ?_);(refine Se.Al hs rfl (fm_z) ?_;clear hs;rintro w g12-hs))|((with_reducible refine Se.iN ?_);(refine Se.Sow 0 hs rfl rfl rfl rfl (by simp[Value.oneCell']) (by kernel_rfl) (rfl) ?_;clear hs;intro w hs;try simp only[pS] at hs))|((first|with_reducible refine Se.ab hs ?_|with_reducible refine Se.abc hs ?_);clear hs;(first|(generalize w.heap.size=g5;intro w hs)))|(go_at_call 43;refine Calls.mono (CL.out _ _ hs) ?_;clear hs;rintro e w ⟨rfl,hs⟩)|(go_at_call 25;refine Calls.mono (CV.out _ _ hs) ?_;clear hs;rintro e w ⟨rfl,hs⟩)|(go_at_call 35;refine Calls.mono (CK.out _ _ hs) ?_;clear hs;rintro e w ⟨rfl,hs⟩))
    go_ret;exact⟨rfl,hs.drop.drop⟩
 obtain⟨hv,ha,hd⟩:vB r=true/\al.toNat<=31/\dg.toNat<=3:=by
  simp only[not_or,Nat.not_lt,Bool.not_eq_false] at hv0;exact hv0
 clear hv0
 have hc:=(vB_ok hv).2
 have ral:=rwl_al hv
 have rmd:(rwl r)[4]? = some (iv (cfR r).md):=by rw[(vB_ok hv).1];rfl
 have rtr:(rwl r)[5]? = some (iv (cfR r).tr):=by rw[(vB_ok hv).1];rfl
 obtain⟨c,hcc⟩:∃ c,c=cfR r:=⟨_,rfl⟩
 rw[<-hcc] at hc ral rmd rtr
 obtain⟨md,hmd⟩:∃ md,md=c.md:=⟨_,rfl⟩
 obtain⟨tr,htr⟩:∃ tr,tr=c.tr:=⟨_,rfl⟩
 have hmd1:=hc.m1
 have hmd2:=hc.md
 have htr1:=hc.t1
 have htr2:=hc.tr
 rw[<-hmd] at hmd1 hmd2 rmd;rw[<-htr] at htr1 htr2 rtr
 have hn1:=H1.out.1
 have hn12:=H1.out.2.1
 have hp50:=H1.out.2.2
 obtain⟨u1,f1,b0,o0,ou⟩:=ou_start hc ha hd da (by omega) (by omega)
 obtain⟨s0,hs0⟩:∃ s,s=liveE c al dg:=⟨_,rfl⟩
 obtain⟨F,hF⟩:∃ F,F=fl (lfE c al dg):=⟨_,rfl⟩
 obtain⟨F2,hF2⟩:∃ F,F=fl (owE c dg):=⟨_,rfl⟩
 obtain⟨EB,hEB⟩:∃ E,E=(entE 1#8 300#16 n 90#8).map v8:=⟨_,rfl⟩
 obtain⟨E1,hE1⟩:∃ b,b=enc (wrP 300#16 da.length) (owE c dg):=⟨_,rfl⟩
 obtain⟨e1,he1⟩:∃ n,n=E1.length:=⟨_,rfl⟩
 rw[<-hs0,<-hE1] at f1;rw[<-hs0] at b0 o0
 have hf1:=framed_fm (d:=digE c dg) hc.al
 have hf3:=framed_lf (c:=c) (dg:=dg) ha
 have hle1:e1<=4194304:=by rw[he1,hE1];exact Nat.le_trans (enc_le hf1 (wr_valid 300#16 da.length)) (by decide)
 have FL:=Lib.hid (show F.length=3 by rw[hF];rfl)
 have FO:=Lib.hid (show ∀ v∈F,v.oneCell'=true by rw[hF];simp[fl,Value.oneCell'])
 have F2L:=Lib.hid (show F2.length=3 by rw[hF2];rfl)
 have FS:=Lib.hid (show F.set 2 (.int .i64 c.al)=F2 by rw[hF,hF2];rfl)
 have EBL:=Lib.hid (show EB.length=64 by rw[hEB,List.length_map];exact entK_len _ _ _ _ 4)
 have EBO:=Lib.hid (show ∀ v∈EB,v.oneCell'=true by rw[hEB];intro v hv;obtain⟨b,_,rfl⟩:=List.mem_map.1 hv;rfl)
 have R2:=Lib.hid (show R[2]? = some (.int .i64 c.al) by rw[hR];exact ral)
 have R4:=Lib.hid (show R[4]? = some (iv md) by rw[hR];exact rmd)
 have R5:=Lib.hid (show R[5]? = some (iv tr) by rw[hR];exact rtr)
 have CL:Hid (∀ (g5:Nat) w,St w0 X (.blk g5 23 R::L) w->Calls Tryz.prog 43 #[.agg R.toArray,.int .u8 (n8 al),.int .u8 (n8 dg)] w fun e w'=>∃ g f,e=.returned (.tuple #[.pointer (some ⟨g,0,none⟩),.agg F.toArray])/\Hid (OkP s0 f.k)/\St w0 X (.blk g5 23 R::FF g s0 f L) w'):=Lib.hid (fun g5 w hs=>by
  rw[hF,hs0,hcc,<-Pd.fv_eq]
  have h:=live_d (N:=[.blk g5 23 R]) hs r al dg hv ha hd
  rw[hR];rw[hR] at h;exact h)
 have CEn:Hid (∀ (M:List At) w,St w0 X M w->Calls Tryz.prog 29 #[.int .u8 1,.int .u16 300,.int .i64 (n:Nat),.int .u8 90] w fun e w'=>e=.returned (.agg EB.toArray)/\St w0 X M w'):=Lib.hid (fun M w hs=>by rw[hEB];exact entry_st hs 1#8 300#16 n 90#8 (by omega))
 have CCm:Hid (∀ (M:List At) w,St w0 X M w->Calls Tryz.prog 44 #[.agg F2.toArray,.agg EB.toArray,.slice none 0 0] w fun e w'=>∃ r B c',e=.returned (.slice B e1 c')/\St w0 X (.own 1 r B e1 c' (E1.map v8)::M) w'):=Lib.hid (fun M w hs=>by
  rw[hF2,hEB,hE1,<-Pd.fv_eq,hn];exact lcmd_st hs (owE c dg) (entE 1#8 300#16 da.length 90#8) [] (entK_len _ _ _ _ 4) rfl Reads.nil hf1 (wr_valid 300#16 da.length) (by rw[he1,hE1];rfl))
 have CF1:Hid (∀ (a1 a2 a3 a4:At) (r:Option Nat) (B:Option Addr) (c' g:Nat) (f:Pf) w,Hid (OkP s0 f.k)->St w0 X (.own 1 r B e1 c' (E1.map v8)::a1::a2::a3::a4::FF g s0 f L) w->Calls Tryz.prog 37 #[.pointer (some ⟨g,0,none⟩),.slice B e1 c'] w fun e' w'=>∃ RB rc rq rl f',e'=.returned (.tuple #[.slice RB 0 rc,iv 0])/\Hid (rqo rl=[]/\∀ x∈rl,x.1.en.length=64)/\Hid (OkP u1 f'.k)/\St w0 X (a1::a2::a3::a4::.own 67 rq RB 0 rc (rqs rl)::(qAs rl++FF g u1 f' L)) w'):=Lib.hid (fun a1 a2 a3 a4 r B c' g f w ok hs=>by
  refine(feed_k (N:=[.own 1 r B e1 c' (E1.map v8),a1,a2,a3,a4]) hs ok.out b0 E1 he1 (Reads.own 0 rfl) hle1 (by rw[o0];decide) f1 (m:=0) rfl).mono ?_;rintro e' w' ⟨RB,rc,rq,rl,f',h1,h2,h3,h4⟩;refine⟨RB,rc,rq,rl,f',h1,h2,h3,?_⟩
  have h5:=h4.sub (L':=.own 67 rq RB 0 rc (rqs rl)::(qAs rl++([a1,a2,a3,a4]++FF g u1 f' L))) (List.Sublist.cons_cons _ (List.Sublist.append_left (List.Sublist.cons _ (List.Sublist.refl _)) _))
  exact h5.perm (List.perm_append_comm_assoc (.own 67 rq RB 0 rc (rqs rl)::qAs rl) [_,_,_,_] _))
 have CI:Hid (∀ (t:Ss) (a1 a2 a3 a4 a5 a6:At) (Q:List At) (gi g:Nat) (f:Pf) w,Hid (OkP t f.k)->Hid ((t.tx=[]/\∃ q,t.rp=[(300#16,q)])\/(t.rp=[]/\∃ q,t.tx=[(300#16,q)]))->Hid (t.st=2/\t.re=0)->St w0 X (.blk gi 40 [.int .u16 300]::a1::a2::a3::a4::a5::(Q++FF g t f L)) w->Calls Tryz.prog 41 #[.pointer (some ⟨g,0,none⟩),.int .i64 2,.int .i64 0,.slice (some ⟨gi,0,none⟩) 1 1] w fun e' w'=>e'=.returned (.bool true)/\St w0 X (a1::a2::a3::a4::a5::(Q++FF g t f L)) w'):=Lib.hid (fun t a1 a2 a3 a4 a5 a6 Q gi g f w ok h h2 hs=>by
  have hz:outZ t=[300]/\t.tx.length+t.rp.length<=12:=by
   rcases h.out with ⟨h3,q,h4⟩|⟨h3,q,h4⟩
   ·exact⟨outZ_rp h3 h4,by rw[h3,h4];show 0+1<=12;decide⟩
   ·exact⟨outZ_tx h4 h3,by rw[h3,h4];show 1+0<=12;decide⟩
  refine(is_m (.blk gi 40 [.int .u16 300]::a1::a2::a3::a4::a5::Q) hs ok.out hz.2 hz.1 2 0 [300] rfl (Reads.blk 0 rfl) (fun _=>rfl) (isB_true (by rw[h2.out.1];rfl) (by rw[h2.out.2];rfl) rfl)).mono ?_;rintro e w' ⟨h5,h6⟩;exact⟨h5,h6.drop⟩)
 have HOU:=Lib.hid ou
 have HC:=Lib.hid (And.intro hc (And.intro ha (And.intro hmd htr)))
 have HB:=Lib.hid (show 4096<=md/\md<=1048576/\4096<=tr/\tr<=1048576/\1<=n/\n<=12000/\n2<=50 by omega)
 have HN:=Lib.hid hn
 have HN2:=Lib.hid hn2
 have HX:=Lib.hid hx
 have HX2:=Lib.hid hx2
 have HF:=Lib.hid (And.intro hF (And.intro hF2 (And.intro hf1 hf3)))
 have HEB:=Lib.hid hEB
 have HCA:=Lib.hid hca
 have wn:IntKind.i64.wrap (n:Int)=(n:Int):=IntWalk.i64_in _ (by omega)
 rw[<-hR];clear hR hv ral rmd rtr hcc f1 b0 o0 ou hs0 hF hF2 hEB hE1 he1 hf1 hf3 hle1 hn hx hca hc hmd htr hmd1 hmd2 htr1 htr2 hn1 hn12 hp50 ha hd hn2 hx2
 go_enter Tryz.func9,Tryz.ntmps9
 go_wp2_with (first|((with_reducible refine Se.iL 5 ?_);(refine Se.toL rfl (Se.bx (o:=⟨some 5,_,_,_,_,_⟩) hs rfl rfl (l:=R) rfl ?_);clear hs;rintro w g5-hs))|((with_reducible refine Se.iL 38 ?_);(refine Se.Ldw hs rfl rfl (Reads.blk 0 rfl) (by rw[RL.out];kernel_rfl) ?_))|((with_reducible refine Se.iL 12 ?_);(refine Se.Al hs rfl (fm_z) ?_;clear hs;rintro w g12-hs))|((with_reducible refine Se.iL 13 ?_);(refine Se.Al hs rfl (fm_z) ?_;clear hs;rintro w g13-hs))|((with_reducible refine Se.iL 14 ?_);(refine Se.Al hs rfl (arr_z) ?_;clear hs;rintro w g14-hs))|((with_reducible refine Se.isL (o:=⟨none,Op.store 54 _ _,_,_,_,_⟩) ?_);(refine Se.Sow 0 hs rfl rfl rfl rfl (FO.out) (by rw[FL.out];kernel_rfl) (by rw[FL.out];rfl) ?_;clear hs;intro w hs;try simp only[pS] at hs))|((with_reducible refine Se.isL (o:=⟨none,Op.store 37 _ _,_,_,_,_⟩) ?_);(refine Se.Sow 0 hs rfl rfl rfl rfl (EBO.out) (by rw[EBL.out];kernel_rfl) (by rw[EBL.out];rfl) ?_;clear hs;intro w hs;try simp only[pS] at hs))|((with_reducible refine Se.iL 60 ?_);(refine Se.Ldw hs rfl rfl (Reads.blk 0 rfl) (by rw[FL.out];kernel_rfl) ?_))|((with_reducible refine Se.iL 62 ?_);(refine Se.Ld hs rfl rfl (Cell.blk 2 rfl R2.out) ?_))|((with_reducible refine Se.isL (o:=⟨none,Op.store 3 _ _,_,_,_,_⟩) ?_);(refine Se.Soq 0 hs rfl rfl rfl (by rw[FL.out];omega) (FS.out) ?_;clear hs;intro w hs;try simp only[pS] at hs))|((with_reducible refine Se.iL 69 ?_);(refine Se.Ldw hs rfl rfl (Reads.blk 1 rfl) (by rw[F2L.out];kernel_rfl) ?_))|((with_reducible refine Se.iL 70 ?_);(refine Se.Ldw hs rfl rfl (Reads.blk 0 rfl) (by rw[EBL.out];kernel_rfl) ?_))|((with_reducible refine Se.iL 84 ?_);(refine Se.toL rfl (Se.bsv (o:=⟨some 84,_,_,_,_,_⟩) hs rfl Tryz.underlying26 u16_i rfl ([.int .u16 300]) (by rfl) (by rfl) (by decide) (by decide) (by simp[Value.oneCell']) ?_);clear hs;rintro w g84-hs))|((first|with_reducible refine Se.ab hs ?_|with_reducible refine Se.abc hs ?_);clear hs;(first|(generalize w.heap.size=g5;intro w hs)))|(go_at_call 43;refine Calls.mono (CL.out _ _ hs) ?_;clear hs;rintro e w ⟨g,f,rfl,ok,hs⟩)|(go_at_call 29;refine Calls.mono (CEn.out _ _ hs) ?_;clear hs;rintro e w ⟨rfl,hs⟩)|(go_at_call 44;refine Calls.mono (CCm.out _ _ hs) ?_;clear hs;rintro e w ⟨r1,B1,c1,rfl,hs⟩)|(go_at_call 37;refine Calls.mono (CF1.out _ _ _ _ _ _ _ _ _ _ ok hs) ?_;clear hs;rintro e w ⟨RB1,rc1,rq1,rl1,f1,rfl,hrl,ok1,hs⟩)|(go_at_call 41;refine Calls.mono (CI.out _ _ _ _ _ _ (.rd none []) _ _ _ _ _ ok1 (Lib.hid (.inr ⟨(HOU.out.e2 (by have:=HB.out;have:=HN.out;omega)).2.1,_,(HOU.out.e2 (by have:=HB.out;have:=HN.out;omega)).1⟩)) (Lib.hid ⟨HOU.out.v.st,HOU.out.v.re⟩) hs) ?_;clear hs;rintro e w ⟨rfl,hs⟩))
 clear CL CEn CCm CF1 ok
 have HRL0:Hid (rqo rl1=lst da 0/\(∀ x∈rl1,x.1.en.length=64)/\0=rl1.length):=Lib.hid ⟨hrl.out.1.trans (by unfold lst;rw[if_neg (by have:=HB.out;have:=HN.out;omega)]),hrl.out.2,by have:=congrArg List.length hrl.out.1;simpa [rqo] using this.symm⟩
 clear hrl
 go_loopg [15,16,17,18] (n-0) (fun gh s15 s16 s17 s18 wr=>∃ (a nx lc rc:Nat) (RB:Option Addr) (rq:Option Nat) (rl:List (Rq × Th)) (t:Ss) (f:Pf),gh=n-a/\s15=.slice RB lc rc/\s16=.int .i64 0/\s17=.int .i64 (a:Nat)/\s18=.int .i64 (nx:Nat)/\a<=n/\nx<=n2/\Hid (OuR c al dg da a t)/\Hid (rqo rl=lst da a/\(∀ x∈rl,x.1.en.length=64)/\lc=rl.length)/\Hid (OkP t f.k)/\St w0 X (.blk g14 37 EB::.blk g13 54 F2::.blk g12 54 F::.blk g5 23 R::.own 67 rq RB lc rc (rqs rl)::(qAs rl++FF g t f L)) wr)
 case atStart=>exact⟨0,0,0,rc1,RB1,rq1,rl1,u1,f1,rfl,rfl,rfl,rfl,rfl,Nat.zero_le _,Nat.zero_le _,HOU,HRL0,ok1,hs⟩
 case round =>
  clear hs HOU HRL0 ok1
  rename World=>w
  obtain⟨a,nx,lc,rc,RB,rq,rl,t,f,rfl,rfl,rfl,rfl,rfl,han,hnx,HOU,HRL,ok,hs⟩:=hrel
  have hB:=HB.out
  by_cases hlt:a<n
  ·have hlt':(a:Int)<(n:Int):=by omega
   obtain⟨e,he⟩:∃ e,e=min (a+tr) n:=⟨_,rfl⟩
   obtain⟨ea,hea⟩:∃ ea,ea=e-a:=⟨_,rfl⟩
   obtain⟨na,hna⟩:∃ na,na=n-a:=⟨_,rfl⟩
   obtain⟨E3,hE3⟩:∃ b,b=encs (lfE c al dg) [rdyP a e]:=⟨_,rfl⟩
   obtain⟨e3,he3⟩:∃ n,n=E3.length:=⟨_,rfl⟩
   obtain⟨t1,ht1⟩:∃ t1,t1={ t with out:=[] }:=⟨_,rfl⟩
   have hC:=HC.out
   have hae:a<e/\e<=n/\e<=12000:=by omega
   have ho:t.out=E3:=by
    have h:=(HOU.out.e2 (by rw[<-HN.out];exact hlt)).2.2
    rw[<-hC.2.2.2,<-HN.out,<-he,<-hE3] at h;exact h
   have hv3:∀ p∈[rdyP a e],Pd.valid p=true:=fun p hp=>by obtain rfl:=List.mem_singleton.1 hp;exact rdy_valid hae.1 (by omega)
   have hle3:e3<=4194304:=by
    have h:=encs_small HF.out.2.2.2 (d:=0) [rdyP a e] (fun p hp=>⟨hv3 p hp,by obtain rfl:=List.mem_singleton.1 hp;exact Nat.le_refl _⟩)
    rw[he3,hE3];exact Nat.le_trans h (show(0+260)*1<=4194304 by decide)
   have HO:=Lib.hid ho
   have HM:=Lib.hid (show t.out.length=e3 by rw[ho,he3])
   have HT1:=Lib.hid ht1
   have HIN:Hid (InR c al dg da a e t1):=Lib.hid (by
    have h:=HOU.out.inn (by rw[<-HN.out];exact hlt) (by rw[<-hC.2.2.2];omega)
    rw[<-hC.2.2.2,<-HN.out,<-he,<-ht1] at h;exact h)
   have HRL1:=Lib.hid HRL.out
   have CP:Hid (∀ (M:List At) (r:Option Nat) (B:Option Addr) (c':Nat) w,St w0 X (.own 1 r B e3 c' (E3.map v8)::M) w->Calls Tryz.prog 45 #[.slice B e3 c',.agg F.toArray] w fun e' w'=>∃ OB ro oc PX ta,e'=.returned (.tuple #[.slice OB 1 oc,.bool true])/\Hid (PX=pcv (rdyP a e,ta))/\St w0 X (.own 14 ro OB 1 oc PX::M) w'):=Lib.hid (fun M r B c' w hs=>by
    rw[hE3] at hs;rw[HF.out.1,<-Pd.fv_eq];refine(parse_d hs HF.out.2.2.2 hv3 (show(1:Nat)<1000 by decide) (by rw[he3,hE3]) hle3 rfl).mono ?_;rintro e' w⟨OB,ro,oc,l,R',h1,h2,h3⟩
    obtain⟨x,rfl⟩:∃ x,l=[x]:=List.length_eq_one_iff.1 (by have:=congrArg List.length h2.out.1;simpa using this)
    obtain⟨p,ta⟩:=x
    obtain rfl:p=rdyP a e:=by have:=h2.out.1;simpa using this
    have e1:pcs [(rdyP a e,ta)]=pcv (rdyP a e,ta):=by unfold pcs;rw[List.flatMap_singleton]
    rw[e1] at h3;exact⟨OB,ro,oc,_,ta,h1,Lib.hid rfl,h3.sub (List.Sublist.cons_cons _ (List.sublist_append_right _ _))⟩)
   have HAE:=Lib.hid hae
   have HEA:=Lib.hid (show e=a+ea by omega)
   have wna:IntKind.i64.wrap ((n:Int)-(a:Int))=(na:Int):=by rw[IntWalk.i64_in _ (by omega)];omega
   have hmn:mnN tr na=ea:=by unfold mnN;omega
   have wa:IntKind.i64.wrap (a:Int)=(a:Int):=IntWalk.i64_in _ (by omega)
   have wea:IntKind.i64.wrap (ea:Int)=(ea:Int):=IntWalk.i64_in _ (by omega)
   have wsum:IntKind.i64.wrap ((a:Int)+(ea:Int))=(e:Int):=by rw[IntWalk.i64_in _ (by omega)];omega
   clear hC ho hv3 hle3 hae ht1 hE3 he3 he hea hna hB HRL
   go_upto_region 14 with (fail)
   refine Ch.region' 9 (fun wx=>Blk wx g12 F 54) (fun|1=>true|3=>true|_=>false) (by kernel_rfl) (by decide +kernel) (hs.drew.hold (.blk g12 54 F) (by simp)) ?_;replace hs:=hs.drew;generalize w.drew=w at hs ⊢;change Ch.CW _ _ _ _ _ [0,1,2,3,4,5,6,7,8] _ _
   iterate 1 (refine Ch.pA ?_;(try simp only[pU]))
   refine Ch.cA (f:=39) (args:=#[.pointer (some ⟨g,0,none⟩)]) (output_d (N:=_::_::_::_::_::qAs rl) hs ok.out HM.out HO.out HT1.out) ?_;clear hs;rintro e w⟨B3,r3,c3,f4,rfl,ok4,hs⟩;refine⟨_,rfl,hs.hold (.blk g12 54 F) (by simp),?_⟩;(try simp only[pU])
   iterate 1 ((first|refine Ch.pA ?_|refine Ch.pE (hv:=fun wx hS=>Se.xR (hr:=(Li.Rd.of_blk hS)) (hi:=(by rw[FL.out];kernel_rfl))) (h:=?_));(try simp only[pU]))
   refine Ch.cA (f:=45) (args:=#[.slice B3 e3 c3,.agg F.toArray]) (CP.out _ _ _ _ _ hs) ?_;clear hs;rintro e w⟨OB,ro,oc,PX,ta,rfl,hPX,hs⟩;refine⟨_,rfl,hs.hold (.blk g12 54 F) (by simp),?_⟩;(try simp only[pU])
   iterate 5 (refine Ch.pA ?_;(try simp only[pU]))
   refine Ch.done ?_
   try simp only[List.drop_succ_cons,List.drop_zero]
   simp only[List.cons_append] at hs
   obtain⟨go,oo,rfl,rfl⟩:=hs.own_at 0 rfl (by decide)
   have P0:=Lib.hid (show PX[0]? = some (.int .u8 9) by rw[hPX.out];rfl)
   have P4:=Lib.hid (show PX[4]? = some (.int .u16 300) by rw[hPX.out];rfl)
   have P5:=Lib.hid (show PX[5]? = some (.int .u16 0) by rw[hPX.out];rfl)
   have P6:=Lib.hid (show PX[6]? = some (.int .u32 (a:Int)) by
    rw[hPX.out]
    show some (Value.int .u32 (n32 (BitVec.ofNat 32 a)))=_
    unfold n32;rw[BitVec.toNat_ofNat,Nat.mod_eq_of_lt (by have:=HAE.out;omega)])
   have P7:=Lib.hid (show PX[7]? = some (.int .u32 (ea:Int)) by
    rw[hPX.out]
    show some (Value.int .u32 (n32 (BitVec.ofNat 32 (e-a))))=_
    unfold n32;rw[BitVec.toNat_ofNat,Nat.mod_eq_of_lt (by have:=HAE.out;omega),show e-a=ea by have:=HEA.out;omega])
   have SP:Hid (∀ w',St w0 X (.own 14 (some go) (some ⟨go,oo,none⟩) 1 oc PX::.blk g14 37 EB::.blk g13 54 F2::.blk g12 54 F::.blk g5 23 R::.own 67 rq RB lc rc (rqs rl)::(qAs rl++FF g t1 f4 L)) w'->w'.cell? ⟨go,oo,none⟩=some (.int .u8 9)/\w'.cell? ⟨go,oo+4,none⟩=some (.int .u16 300)/\w'.cell? ⟨go,oo+6,none⟩=some (.int .u32 (a:Int))/\w'.cell? ⟨go,oo+7,none⟩=some (.int .u32 (ea:Int))/\Blk w' g5 R 23):=Lib.hid (fun w' h=>⟨((Reads.own 0 rfl).cell 0 P0.out) _ h.hold,((Reads.own 0 rfl).cell 4 P4.out) _ h.hold,((Reads.own 0 rfl).cell 6 P6.out) _ h.hold,((Reads.own 0 rfl).cell 7 P7.out) _ h.hold,h.hold (.blk g5 23 R) (by simp)⟩)
   clear CP HM HO hPX
   go_upto_region 15 with (fail)
   refine Ch.region' 45 (fun wx=>wx.cell? ⟨go,oo,none⟩=some (.int .u8 9)/\wx.cell? ⟨go,oo+4,none⟩=some (.int .u16 300)/\wx.cell? ⟨go,oo+6,none⟩=some (.int .u32 (a:Int))/\wx.cell? ⟨go,oo+7,none⟩=some (.int .u32 (ea:Int))/\Blk wx g5 R 23) (fun |_=>false) (by kernel_rfl) (by decide +kernel) (SP.out _ hs.drew) ?_;replace hs:=hs.drew;generalize w.drew=w at hs ⊢;change Ch.CW _ _ _ _ _ [0,1,2,3,4,5,6,7,8,9,10,11,12,13,14,15,16,17,18,19,20,21,22,23,24,25,26,27,28,29,30,31,32,33,34,35,36,37,38,39,40,41,42,43,44] _ _
   iterate 45 ((first|refine Ch.pA ?_|refine Ch.pE (hv:=fun wx hS=>Se.xL (hc:=hS.1)) (h:=?_)|refine Ch.pE (hv:=fun wx hS=>Se.xL (hc:=hS.2.1)) (h:=?_)|refine Ch.pE (hv:=fun wx hS=>Se.xL (hc:=hS.2.2.1)) (h:=?_)|refine Ch.pE (hv:=fun wx hS=>Se.xL (hc:=hS.2.2.2.1)) (h:=?_)|refine Ch.pE (hv:=fun wx hS=>Se.xL (hc:=((hS.2.2.2.2.cell _).trans R5.out))) (h:=?_));(try simp only[pU]))
   refine Ch.done ?_
   try simp only[List.drop_succ_cons,List.drop_zero]
   clear SP wna hmn
   go_wp2_with (first|((with_reducible refine Se.iL 148 ?_);(refine Se.Ld hs rfl rfl ((Reads.own 0 rfl).cell 7 P7.out) ?_)))
   go_loopg [15,16,17,18] (e-a) (fun gh s15 s16 s17 s18 wr=>∃ (b nx lc rc:Nat) (RB:Option Addr) (rq:Option Nat) (rl:List (Rq × Th)) (t:Ss) (f:Pf),gh=e-b/\s15=.slice RB lc rc/\s16=.int .i64 0/\s17=.int .i64 (b:Nat)/\s18=.int .i64 (nx:Nat)/\b<=e/\nx<=n2/\Hid (InR c al dg da b e t)/\Hid (rqo rl=lst da b/\(∀ x∈rl,x.1.en.length=64)/\lc=rl.length)/\Hid (OkP t f.k)/\St w0 X (.own 14 (some go) (some ⟨go,oo,none⟩) 1 oc PX::.blk g14 37 EB::.blk g13 54 F2::.blk g12 54 F::.blk g5 23 R::.own 67 rq RB lc rc (rqs rl)::(qAs rl++FF g t f L)) wr)
   case atStart=>exact⟨a,nx,lc,rc,RB,rq,rl,t1,f4,rfl,rfl,rfl,rfl,rfl,by have:=HAE.out;omega,hnx,HIN,HRL1,ok4,hs⟩
   case round =>
    clear hs HIN HRL1 ok4 ok HOU HT1 hnx
    rename World=>w
    obtain⟨b,nx,lc,rc,RB,rq,rl,t,f,rfl,rfl,rfl,rfl,rfl,hbe,hnx,HIN,HRL,ok,hs⟩:=hrel
    have hB:=HB.out
    have hae:=HAE.out
    by_cases hlt:b<e
    ·have hlt':(b:Int)<(e:Int):=by omega
     obtain⟨eb,heb⟩:∃ eb,eb=e-b:=⟨_,rfl⟩
     obtain⟨m1,hm1⟩:∃ m1,mnN eb md=m1:=⟨_,rfl⟩
     have HM1:=Lib.hid (show m1=min eb md by rw[<-hm1];unfold mnN;rfl)
     have web:IntKind.i64.wrap ((e:Int)-(b:Int))=(eb:Int):=by rw[IntWalk.i64_in _ (by omega)];omega
     have HEB2:=Lib.hid heb
     have HBB:=Lib.hid hB
     clear heb hB hae
     go_upto_if 163 with (first|((with_reducible refine Se.iL 158 ?_);(refine Se.Ld hs rfl rfl (Cell.blk 4 rfl R4.out) ?_)))
     (try simp only[pU])
     go_cut [18,22] (fun s18 s22 wx=>∃ (nx2 m:Nat),s18=.int .i64 (nx2:Nat)/\s22=.int .i64 (m:Nat)/\nx2<=n2/\Hid (1<=m/\b+m<=e/\m<=md)/\St w0 X (.own 14 (some go) (some ⟨go,oo,none⟩) 1 oc PX::.blk g14 37 EB::.blk g13 54 F2::.blk g12 54 F::.blk g5 23 R::.own 67 rq RB lc rc (rqs rl)::(qAs rl++FF g t f L)) wx)
     case first =>
      by_cases hz:nx<n2
      ·have hz':(nx:Int)<(n2:Int):=by omega
       obtain⟨z,hzz⟩:∃ z,zs[nx]? = some z:=⟨_,List.getElem?_eq_getElem (by rw[<-HN2.out];exact hz)⟩
       have RZ:=Lib.hid (HX2.out.mono (L':=.own 14 (some go) (some ⟨go,oo,none⟩) 1 oc PX::.blk g14 37 EB::.blk g13 54 F2::.blk g12 54 F::.blk g5 23 R::.own 67 rq RB lc rc (rqs rl)::(qAs rl++FF g t f L)) (fun a ha=>by have h:=(FF_sub (g:=g) (s:=t) (f:=f)).subset ha;simp[h]))
       obtain⟨gp,op,rfl⟩:=rd_addr (RZ.out _ hs.hold) (by rw[List.length_map,<-HN2.out];omega)
       obtain⟨zz,hzn⟩:∃ zz,zz=z.toNat:=⟨_,rfl⟩
       obtain⟨z1,hz1⟩:∃ z1,z1=zz+1:=⟨_,rfl⟩
       have CZ:=Lib.hid (RZ.out.cell nx (v:=.int .u16 (zz:Int)) (by rw[List.getElem?_map,hzz,hzn];rfl))
       have hzl:=z.isLt
       obtain⟨m,hm⟩:∃ m,mnN m1 z1=m:=⟨_,rfl⟩
       have HMM:=Lib.hid (show m=min m1 z1 by rw[<-hm];unfold mnN;rfl)
       have wz:IntKind.i64.wrap (zz:Int)=(zz:Int):=IntWalk.i64_in _ (by omega)
       have w1z:IntKind.i64.wrap (1+(zz:Int))=(z1:Int):=by rw[IntWalk.i64_in _ (by omega)];omega
       have wnx:=IntWalk.i64_in ((nx:Int)+1) (by have:=HBB.out;omega)
       obtain⟨f1,f2,f3⟩:=Su.lt_dec hz
       have HZ1:=Lib.hid hz1
       have HFIN:Hid (1<=m/\b+m<=e/\m<=md):=Lib.hid (by have:=HMM.out;have:=HM1.out;have:=HEB2.out;have:=HBB.out;omega)
       clear hzz hzn hz1 hzl RZ HMM
       go_wp2_with (first|((with_reducible refine Se.iL 168 ?_);(refine Se.Ld hs rfl rfl (CZ.out) ?_)))
       go_meet;exact⟨nx+1,m,by go_num,rfl,by omega,HFIN,hs⟩
      ·have hz':¬ (nx:Int)<(n2:Int):=by omega
       go_wp2_with fail
       go_meet;exact⟨nx,m1,rfl,rfl,hnx,Lib.hid (by have:=HM1.out;have:=HEB2.out;have:=HBB.out;omega),hs⟩
     case rest =>
     clear hs HM1 web hm1 hnx
     obtain⟨nx2,m,rfl,rfl,hnx2,HMM,hs⟩:=hcut
     rename World=>w
     have hB:=HBB.out
     have hM:=HMM.out
     have hae:=HAE.out
     have hC:=HC.out
     obtain⟨am,ham⟩:∃ am,am=b+m:=⟨_,rfl⟩
     obtain⟨bl,hbl⟩:∃ bl,bl=decide (b+m=e):=⟨_,rfl⟩
     obtain⟨t2,hf2,hin2⟩:=in_step HIN.out hC.1 hC.2.1 hM.1 hM.2.1 (by rw[<-HN.out];exact hae.2.1) (by rw[<-hC.2.2.1];exact hM.2.2) (by rw[<-HN.out];omega)
     obtain⟨EN,hEN⟩:∃ b',b'=enc (hdP da b m e) (owE c dg):=⟨_,rfl⟩
     obtain⟨en,hen⟩:∃ n,n=EN.length:=⟨_,rfl⟩
     obtain⟨lc2,hlc2⟩:∃ k,k=(lst da (b+m)).length:=⟨_,rfl⟩
     obtain⟨DA,hDA⟩:∃ D:Option Addr,D=A.map (·.add b):=⟨_,rfl⟩
     obtain⟨dc,hdc⟩:∃ d,d=ca-b:=⟨_,rfl⟩
     obtain⟨PV,hPV⟩:∃ P,P=pc (hdP da b m e).h none 0 0 DA m dc:=⟨_,rfl⟩
     have hcb:¬ ca=b:=by have:=HCA.out;omega
     have hvd:Pd.valid (hdP da b m e)=true:=hd_valid hM.1 (by rw[<-HN.out];omega) (by omega)
     have hlen:en<=4194304:=by rw[hen,hEN];exact Nat.le_trans (enc_le HF.out.2.2.1 hvd) (by decide)
     have hto:t.out=[]:=(HIN.out.t.2.2 (by rw[<-HN.out];omega) (by omega)).2.2
     have hdl:((da.drop b).take m).length=m:=by rw[List.length_take,List.length_drop,<-HN.out];omega
     have CE:Hid (∀ (M:List At) w,(∀ x∈L,x∈M)->St w0 X M w->Calls Tryz.prog 28 #[.agg PV.toArray,.agg F2.toArray] w fun e' w'=>∃ r B c,e'=.returned (.slice B en c)/\St w0 X (.own 1 r B en c (EN.map v8)::M) w'):=Lib.hid (fun M w hm hs=>by
      rw[hPV,HF.out.2.1,hEN,<-Pd.fv_eq];refine Pd.rEncode_st hs (hdP da b m e) (owE c dg) Reads.nil ?_ rfl hdl.symm HF.out.2.2.1 hvd (by rw[hen,hEN])
      have h:=Sr.sl_from (k:=b) (n:=n) (c:=ca) (HX.out.mono hm) (by rw[<-HN.out];omega) (fun h=>absurd h hcb)
      rw[if_neg hcb,<-hDA] at h
      have h2:=h.take m
      rw[<-List.map_take] at h2;exact h2)
     have CF:Hid (∀ (r:Option Nat) (B:Option Addr) (c':Nat) w,St w0 X (.own 1 r B en c' (EN.map v8)::.own 14 (some go) (some ⟨go,oo,none⟩) 1 oc PX::.blk g14 37 EB::.blk g13 54 F2::.blk g12 54 F::.blk g5 23 R::.own 67 rq RB lc rc (rqs rl)::(qAs rl++FF g t f L)) w->Calls Tryz.prog 37 #[.pointer (some ⟨g,0,none⟩),.slice B en c'] w fun e' w'=>∃ RB2 rc2 rq2 rl2 f2,e'=.returned (.tuple #[.slice RB2 lc2 rc2,iv 0])/\Hid (rqo rl2=lst da (b+m)/\∀ x∈rl2,x.1.en.length=64)/\Hid (OkP t2 f2.k)/\St w0 X (.own 14 (some go) (some ⟨go,oo,none⟩) 1 oc PX::.blk g14 37 EB::.blk g13 54 F2::.blk g12 54 F::.blk g5 23 R::.own 67 rq2 RB2 lc2 rc2 (rqs rl2)::(qAs rl2++FF g t2 f2 L)) w'):=Lib.hid (fun r B c' w hs=>by
      refine(feed_k (N:=.own 1 r B en c' (EN.map v8)::.own 14 (some go) (some ⟨go,oo,none⟩) 1 oc PX::.blk g14 37 EB::.blk g13 54 F2::.blk g12 54 F::.blk g5 23 R::.own 67 rq RB lc rc (rqs rl)::qAs rl) hs ok.out (HIN.out.bd (by omega)) EN hen (Reads.own 0 rfl) hlen (by rw[hto];decide) (s':=t2) (l:=lst da (b+m)) (e:=0) (by rw[hEN];exact hf2) hlc2).mono ?_;rintro e' w' ⟨RB2,rc2,rq2,rl2,f2,h1,h2,h3,h4⟩;refine⟨RB2,rc2,rq2,rl2,f2,h1,h2,h3,?_⟩
      have h5:=h4.sub (L':=.own 67 rq2 RB2 lc2 rc2 (rqs rl2)::(qAs rl2++([.own 14 (some go) (some ⟨go,oo,none⟩) 1 oc PX,.blk g14 37 EB,.blk g13 54 F2,.blk g12 54 F,.blk g5 23 R]++FF g t2 f2 L))) (List.Sublist.cons_cons _ (List.Sublist.append_left (List.Sublist.cons _ (List.Sublist.cons_cons _ (List.Sublist.cons_cons _ (List.Sublist.cons_cons _ (List.Sublist.cons_cons _ (List.Sublist.cons_cons _ (List.Sublist.cons _ (List.sublist_append_right _ _)))))))) _))
      exact h5.perm (List.perm_append_comm_assoc (.own 67 rq2 RB2 lc2 rc2 (rqs rl2)::qAs rl2) [_,_,_,_,_] _))
     have BP:Hid (∀ w:World,(Instr.build 65 #[(0,.int .u8 6),(4,.int .u16 300),(5,.int .u16 0),(6,.int .u32 (n32 (BitVec.ofNat 32 b))),(1,.bool bl),(13,.slice DA m dc)]).run Tryz.prog w=.ok (.agg PV.toArray) w):=Lib.hid (fun w=>by rw[hPV,hbl];exact bd_hd 0#32 (BitVec.ofNat 32 b) _ DA m dc w)
     have HIN2:Hid (InR c al dg da am e t2):=Lib.hid (by rw[ham];exact hin2)
     have w32:IntKind.u32.wrap (b:Int)=n32 (BitVec.ofNat 32 b):=n32_nat b
     have wam:IntKind.i64.wrap ((b:Int)+(m:Int))=(am:Int):=by rw[IntWalk.i64_in _ (by omega)];omega
     have dbl:((am:Int)==(e:Int))=bl:=by
      rw[hbl,ham,Bool.eq_iff_iff,beq_iff_eq,decide_eq_true_eq];omega
     have s1:(b:Int)<=(am:Int):=by omega
     have s2:(am:Int)<=(ca:Int):=by have:=HCA.out;omega
     have s3:b<=am:=by omega
     have s4:am<=ca:=by have:=HCA.out;omega
     have s5:am-b=m:=by omega
     have s6:ca-b=dc:=hdc.symm
     have s7:A.map (·.add b)=DA:=hDA.symm
     have HLST:Hid (lst da (b+m)=lst da am):=Lib.hid (by rw[ham])
     have HLC:=Lib.hid hlc2
     have HAM:=Lib.hid ham
     have HSB:Hid (∀ x∈L,x∈.own 14 (some go) (some ⟨go,oo,none⟩) 1 oc PX::.blk g14 37 EB::.blk g13 54 F2::.blk g12 54 F::.blk g5 23 R::.own 67 rq RB lc rc (rqs rl)::(qAs rl++FF g t f L)):=Lib.hid (fun a ha=>by have h:=(FF_sub (g:=g) (s:=t) (f:=f)).subset ha;simp[h])
     clear hbl hf2 hin2 hEN hen hlc2 hDA hdc hPV hvd hlen hto hdl hM hC HIN ham hB hae
     go_upto_region 23 with (fail)
     refine Ch.region' 27 (fun wx=>wx.cell? ⟨go,oo+5,none⟩=some (.int .u16 0)/\Blk wx g13 F2 54) (fun|20=>true|21=>true|_=>false) (by kernel_rfl) (by decide +kernel) (⟨((Reads.own 0 rfl).cell 5 P5.out) _ hs.drew.hold,hs.drew.hold (.blk g13 54 F2) (by simp)⟩) ?_;replace hs:=hs.drew;generalize w.drew=w at hs ⊢;change Ch.CW _ _ _ _ _ [0,1,2,3,4,5,6,7,8,9,10,11,12,13,14,15,16,17,18,19,20,21,22,23,24,25,26] _ _
     iterate 18 ((first|refine Ch.pA ?_|refine Ch.pE (hv:=fun wx hS=>Se.xL (hc:=hS.1)) (h:=?_));(try simp only[pU]))
     refine Ch.pE (v:=.agg PV.toArray) (hv:=fun wx hS=>Pd.xbd rfl (vs:=[(0,.int .u8 6),(4,.int .u16 300),(5,.int .u16 0),(6,.int .u32 (n32 (BitVec.ofNat 32 b))),(1,.bool bl),(13,.slice DA m dc)]) rfl (BP.out _)) (h:=?_);(try simp only[pU])
     iterate 1 ((first|refine Ch.pA ?_|refine Ch.pE (hv:=fun wx hS=>Se.xR (hr:=(Li.Rd.of_blk hS.2)) (hi:=(by rw[F2L.out];kernel_rfl))) (h:=?_));(try simp only[pU]))
     refine Ch.cA (f:=28) (args:=#[.agg PV.toArray,.agg F2.toArray]) (CE.out _ _ HSB.out hs) ?_;clear hs;rintro e w⟨r5,B5,c5,rfl,hs⟩;refine⟨_,rfl,⟨((Reads.own 1 rfl).cell 5 P5.out) _ hs.hold,hs.hold (.blk g13 54 F2) (by simp)⟩,?_⟩;(try simp only[pU]);refine Ch.cA (f:=37) (args:=#[.pointer (some ⟨g,0,none⟩),.slice B5 en c5]) (CF.out _ _ _ _ hs) ?_;clear hs;rintro e w⟨RB2,rc2,rq2,rl2,f6,rfl,hrl2,ok2,hs⟩;refine⟨_,rfl,⟨((Reads.own 0 rfl).cell 5 P5.out) _ hs.hold,hs.hold (.blk g13 54 F2) (by simp)⟩,?_⟩;(try simp only[pU])
     iterate 5 (refine Ch.pA ?_;(try simp only[pU]))
     refine Ch.done ?_
     try simp only[List.drop_succ_cons,List.drop_zero]
     have HRL2:Hid (rqo rl2=lst da am/\(∀ x∈rl2,x.1.en.length=64)/\lc2=rl2.length):=Lib.hid ⟨by rw[<-HLST.out];exact hrl2.out.1,hrl2.out.2,by rw[HLC.out,<-hrl2.out.1];unfold rqo;rw[List.length_map]⟩
     have hame:am<=e/\b<am:=by have:=HMM.out;have:=HAM.out;omega
     clear CE CF BP HSB hrl2 w32 dbl s1 s2 s3 s4 s5 s6 s7 hcb
     by_cases hend:am=n
     ·have d1:¬ (am:Int)<(n:Int):=by omega
      clear hend
      go_wp2_with fail
      go_roundg (e-am)
      case measure=>omega
      case rel=>exact⟨am,nx2,lc2,rc2,RB2,rq2,rl2,t2,f6,rfl,rfl,rfl,rfl,rfl,hame.1,hnx2,HIN2,HRL2,ok2,hs⟩
     ·have d1:(am:Int)<(n:Int):=by have:=HAE.out;omega
      obtain rfl:lc2=0:=by
       rw[HLC.out,HLST.out];unfold lst;rw[if_neg (by rw[<-HN.out];exact hend)]
       rfl
      clear hend
      go_wp2_with fail
      go_roundg (e-am)
      case measure=>omega
      case rel=>exact⟨am,nx2,0,rc2,RB2,rq2,rl2,t2,f6,rfl,rfl,rfl,rfl,rfl,hame.1,hnx2,HIN2,HRL2,ok2,hs⟩
    ·obtain rfl:b=e:=by omega
     have hlt':¬ (b:Int)<(b:Int):=by omega
     have HOU:=Lib.hid HIN.out.ou
     clear HIN
     go_wp2_with fail
     go_roundg (n-b)
     case measure=>omega
     case rel=>exact⟨b,nx,lc,rc,RB,rq,rl,t,f,rfl,rfl,rfl,rfl,rfl,by omega,hnx,HOU,HRL,ok,hs.drop⟩
  ·obtain rfl:a=n:=by omega
   have hlt':¬ (a:Int)<(a:Int):=by omega
   obtain⟨h1,h2,h3⟩:=HOU.out.e1 HN.out
   have hq:lst da a=[⟨300#16,entE 1#8 300#16 a 90#8,da,0⟩]:=by unfold lst;rw[if_pos HN.out,<-HN.out]
   have HRQ:Hid (rqo rl=[⟨300#16,entE 1#8 300#16 a 90#8,da,0⟩]/\∀ x∈rl,x.1.en.length=64):=Lib.hid ⟨by rw[<-hq];exact HRL.out.1,HRL.out.2.1⟩
   obtain⟨x,hx1⟩:∃ x,rl=[x]:=List.length_eq_one_iff.1 (by have:=congrArg List.length HRQ.out.1;simpa [rqo] using this)
   obtain rfl:lc=1:=by rw[HRL.out.2.2,hx1];rfl
   have HRN:Hid (0<(rqs rl).length):=Lib.hid (by
    rw[hx1];unfold rqs;rw[List.flatMap_singleton];exact Nat.succ_pos _)
   have CS:Hid (∀ (g2:Nat) w,St w0 X (.blk g2 96 (Value.int .u16 300::(EB++[Value.slice A a ca,Value.int .i64 0]))::.blk g14 37 EB::.blk g13 54 F2::.blk g12 54 F::.blk g5 23 R::.own 67 rq RB 1 rc (rqs rl)::(qAs rl++FF g t f L)) w->Calls Tryz.prog 40 #[.slice RB 1 rc,.slice (some ⟨g2,0,none⟩) 1 1] w fun e w'=>e=.returned (.bool true)/\St w0 X (.blk g14 37 EB::.blk g13 54 F2::.blk g12 54 F::.blk g5 23 R::.own 67 rq RB 1 rc (rqs rl)::(qAs rl++FF g t f L)) w'):=Lib.hid (fun g2 w hs=>by
    refine(same_one hs HRQ.out.1 HRQ.out.2 (rd_addr ((Reads.own 5 rfl) _ hs.hold) HRN.out) (Reads.own 5 rfl) (fun p hp=>?_) (n:=a) (A:=A) (c:=ca) HN.out ?_ (HX.out.mono (fun b hb=>by have h:=(FF_sub (g:=g) (s:=t) (f:=f)).subset hb;simp[h]))).mono ?_
    ·obtain⟨i,hi⟩:=List.getElem?_of_mem (List.mem_map.2 ⟨p,hp,rfl⟩:qA p∈qAs rl)
     exact(Reads.own (L:=qAs rl) i hi).mono (fun b hb=>by simp[hb])
    ·rw[HEB.out]
     exact Reads.blk 0 rfl
    ·rintro e w' ⟨h4,h5⟩
     exact⟨h4,h5.drop⟩)
   have BQ:Hid (∀ w:World,(Instr.build 96 #[(0,.int .u16 300),(1,.agg EB.toArray),(2,.slice A a ca)]).run Tryz.prog w=.ok (.agg (Value.int .u16 300::(EB++[Value.slice A a ca,Value.int .i64 0])).toArray) w):=Lib.hid (fun w=>bd_rq3 300 EB EBL.out A a ca w)
   have HO:=Lib.hid h3
   have HZ:Hid ((t.tx=[]/\∃ q,t.rp=[(300#16,q)])\/(t.rp=[]/\∃ q,t.tx=[(300#16,q)])):=Lib.hid (.inl ⟨h1,_,h2⟩)
   have HST:=Lib.hid (show t.st=2/\t.re=0 from⟨HOU.out.v.st,HOU.out.v.re⟩)
   clear h1 h2 h3 hq hx1 HRQ HRN HRL HOU hB
   go_wp2_with (first|((with_reducible refine Se.iL 216 ?_);(refine Se.Ldw hs rfl rfl (Reads.blk 0 rfl) (by rw[EBL.out];kernel_rfl) ?_))|((with_reducible refine Se.iL 218 ?_);(refine Se.Bd rfl rfl (BQ.out _) ?_))|((with_reducible refine Se.iL 219 ?_);(refine Se.toL rfl (Se.bs1 (o:=⟨some 219,_,_,_,_,_⟩) hs rfl Tryz.underlying86 rq_i3 (by decide) (by decide) rfl (by simp[EBL.out]) ?_);clear hs;rintro w g219-hs))|((with_reducible refine Se.iL 229 ?_);(refine Se.toL rfl (Se.bsv (o:=⟨some 229,_,_,_,_,_⟩) hs rfl Tryz.underlying26 u16_i rfl ([.int .u16 300]) (by rfl) (by rfl) (by decide) (by decide) (by simp[Value.oneCell']) ?_);clear hs;rintro w g229-hs))|(go_at_call 40;refine Calls.mono (CS.out _ _ hs) ?_;clear hs;rintro e w ⟨rfl,hs⟩)|(go_at_call 39;refine Calls.mono (output_n (N:=_::_::_::_::_::qAs rl) hs ok.out HO.out) ?_;clear hs;rintro e w ⟨B8,c8,f8,rfl,ok8,hs⟩)|(go_at_call 41;refine Calls.mono (CI.out _ _ _ _ _ _ (.rd none []) _ _ _ _ _ ok8 HZ HST hs) ?_;clear hs;rintro e w ⟨rfl,hs⟩)|(go_at_call 35;refine Calls.mono (CK.out _ _ hs) ?_;clear hs;rintro e w ⟨rfl,hs⟩))
   go_ret;exact⟨rfl,hs.sub (List.Sublist.cons _ (List.Sublist.cons _ (List.Sublist.cons _ (List.Sublist.cons _ (List.Sublist.cons _ (List.sublist_append_of_sublist_right FF_sub))))))⟩
theorem transfers_any(r:Rw)(al dg:BitVec 8)(da:Bs){A:Option Addr}{n ca:Nat}(W:World)(hn:n=da.length)(hr:Rd W A (da.map v8))(hc:n<=ca)(zs:List (BitVec 16)){A2:Option Addr}{n2 c2:Nat}(hn2:n2=zs.length)(hr2:Rd W A2 (zs.map fun z=>.int .u16 (n16 z))):Calls Tryz.prog 9 #[.agg (rwl r).toArray,.int .u8 (n8 al),.int .u8 (n8 dg),.slice A n ca,.slice A2 n2 c2] W fun e w'=>e=.returned (.bool true)/\Below W.heap.size W w' :=
 (transfers_st (L:=[.rd A (da.map v8),.rd A2 (zs.map fun z=>.int .u16 (n16 z))]) (St.start W (by
  intro a ha;simp only[List.mem_cons,List.not_mem_nil,or_false] at ha
  rcases ha with rfl|rfl
  ·exact hr
  ·exact hr2) rfl) r al dg da hn (Reads.rd 0 rfl) hc zs hn2 (Reads.rd 1 rfl)).mono fun e w' h=>⟨h.1,h.2.below⟩
end Sn
end Go.Proofs.YtjnllcnknjlmmaaGreat
