/- Layer 41. -/
import Derived.Test.YtjnllcnknjlmmaaGreatKb01
set_option linter.unusedSimpArgs false
set_option linter.unusedVariables false
set_option maxRecDepth 100000
set_option maxHeartbeats 4000000
namespace Go.Proofs.YtjnllcnknjlmmaaGreat
open Go Go.RowKit
namespace Pd
open Se (St At Reads)
open Li (v8 Rd Blk)
open Bv (n8 n16 n32)
variable {w0 w:World} {X:List Nat} {L:List At}
attribute [local irreducible] Calls
attribute [local go_sem] Gd.mv_true Gd.pk_or Gd.pk_and Gd.pk_true Gd.pk_false
theorem big_at{g off c:Nat}{bs:List (BitVec 8)}(h:Reads L (some ⟨g,off,none⟩) (bs.map v8))(i j m:Nat)(hm:m=j-i)(h4:m<=4)(hj:j<=bs.length){A:Addr}(hA:A=⟨g,off+i,none⟩) :
  Hid (∀ (L':List At) (w:World),St w0 X (L'++L) w->Calls Tryz.prog 183 #[.slice (some A) m c] w fun e w'=>e=.returned (.int .i64 (bigL (sub bs i j):Int))/\St w0 X (L'++L) w'):=Lib.hid (fun L' w hs=>by
 subst hA;refine(big_any w (sub bs i j) m c (by simp;omega) (by omega) (((rd_sub h i j).app L') w hs.hold)).mono (fun e w' k=>⟨k.1,by rw[k.2];exact hs⟩))
theorem rzeros_at{g off c:Nat}{bs:List (BitVec 8)}(h:Reads L (some ⟨g,off,none⟩) (bs.map v8))(i j m:Nat)(hm:m=j-i)(hj:j<=bs.length)(hl:bs.length<=1000){A:Addr}(hA:A=⟨g,off+i,none⟩){z:Bool}(hz:zeros (sub bs i j)=z) :
  Hid (∀ (L':List At) (w:World),St w0 X (L'++L) w->Calls Tryz.prog 186 #[.slice (some A) m c] w fun e w'=>e=.returned (.bool z)/\St w0 X (L'++L) w'):=Lib.hid (fun L' w hs=>by
 subst hA;refine(rzeros_any w (sub bs i j) (n:=m) (c:=c) (by simp;omega) (((rd_sub h i j).app L') w hs.hold) (by omega) hz).mono (fun e w' k=>⟨k.1,by rw[k.2];exact hs⟩))
theorem wrap32b(bs:List (BitVec 8))(i j:Nat):IntKind.u32.wrap (bigL (sub bs i j):Int)=n32 (w32 (sub bs i j)):=by
 rw[Bv.wrap_n32_of,BitVec.ofInt_natCast];rfl
theorem wrap16b(bs:List (BitVec 8))(i j:Nat):IntKind.u16.wrap (bigL (sub bs i j):Int)=n16 (w16 (sub bs i j)):=by
 rw[Bv.wrap_n16_of,BitVec.ofInt_natCast];rfl
theorem sub_full(bs:List (BitVec 8))(i n:Nat)(h:n=bs.length):sub bs i n=bs.drop i:=by
 subst h;simp[sub]
theorem zPdu2:(Tryz.prog.info? 65).bind (fun i=>i.zero.map (·.cells.toList))=some (pc {} none 0 0 none 0 0):=by kernel_rfl
theorem n8k{k:Nat}(h:k<256):n8 (BitVec.ofNat 8 k)=(k:Int):=by unfold n8;rw[BitVec.toNat_ofNat];omega
theorem parse01(hs:St w0 X L w){k:Nat}(hk:k=0\/k=1)(fl:Nat)(hfl:fl<256)(bs data:List (BitVec 8)){g off c dn dc:Nat}{DA:Option Addr}(hn:bs.length=120)(hc:120<=c)(hS:Reads L (some ⟨g,off,none⟩) (bs.map v8))(hd:dn=data.length){P:PDU}{ok:Bool}(hp:parse k fl bs data=(P,ok)) :
  Calls Tryz.prog 185 #[iv k,iv fl,.slice (some ⟨g,off,none⟩) 120 c,.slice DA dn dc] w fun e w'=>∃ EA en ec,e=.returned (.tuple #[.agg (pc P.h EA en ec DA dn dc).toArray,.bool ok])/\en=P.en.length/\(P.en=[]\/EA=some ⟨g,off,none⟩/\P.en=bs)/\P.da=data/\St w0 X L w':=by
 obtain⟨v2,v3,-,-⟩:=bitI hfl
 obtain⟨b2,hb2⟩:∃ b,bit fl 2=b:=⟨_,rfl⟩
 obtain⟨b3,hb3⟩:∃ b,bit fl 3=b:=⟨_,rfl⟩
 rw[hb2] at v2;rw[hb3] at v3
 have v2':((wrap64 ((fl:Int) / 4)).tmod 2==1)=b2:=by rw[<-IntWalk.i64_left];exact v2
 have v3':((wrap64 ((fl:Int) / 8)).tmod 2==1)=b3:=by rw[<-IntWalk.i64_left];exact v3
 have wk:IntKind.u8.wrap (k:Int)=k:=IntWalk.u8_in _ (by omega)
 have HZ:=Lib.hid zPdu2
 have HS:=Lib.hid hS
 have CB4:=big_at (w0:=w0) (X:=X) (c:=(c-4)) hS 4 8 4 rfl (by omega) (by omega) (A:=⟨g,off+4,none⟩) rfl
 obtain⟨z0,hz0⟩:∃ z,zeros (sub bs 0 2)=z:=⟨_,rfl⟩
 have CZ0:=rzeros_at (w0:=w0) (X:=X) (c:=c) hS 0 2 2 rfl (by omega) (by omega) (A:=⟨g,off,none⟩) rfl hz0
 obtain⟨z8,hz8⟩:∃ z,zeros (sub bs 8 120)=z:=⟨_,rfl⟩
 have CZ8:=rzeros_at (w0:=w0) (X:=X) (c:=(c-8)) hS 8 120 112 rfl (by omega) (by omega) (A:=⟨g,off+8,none⟩) rfl hz8
 obtain⟨y2,hy2⟩:∃ y,bs.getD 2 0#8=y:=⟨_,rfl⟩
 obtain⟨y3,hy3⟩:∃ y,bs.getD 3 0#8=y:=⟨_,rfl⟩
 have V2:=Lib.hid (show(bs.map v8)[2]? = some (.int .u8 (n8 y2)) by rw[<-hy2];exact v8_at bs 2 (by omega))
 have V3:=Lib.hid (show(bs.map v8)[3]? = some (.int .u8 (n8 y3)) by rw[<-hy3];exact v8_at bs 3 (by omega))
 have e4:=wrap32b bs 4 8
 have ia2:(2:Int)<=(c:Int):=by omega
 have ib2:2<=c:=by omega
 have id2:¬ c=2:=by omega
 have ia4:(4:Int)<=(c:Int):=by omega
 have ib4:4<=c:=by omega
 have id4:¬ c=4:=by omega
 have ia8:(8:Int)<=(c:Int):=by omega
 have ib8:8<=c:=by omega
 have id8:¬ c=8:=by omega
 obtain⟨CUR,HC⟩:∃ CUR:List Value,Hid (CUR=[.int .u8 (k:Int),.bool b2,.bool b3,.slice none 0 0,.int .u16 0,.int .u16 0,.int .u32 0,.int .u32 0,.int .u8 (n8 y2),.int .u8 (n8 y3),.int .u32 (n32 (w32 (sub bs 4 8))),.int .u16 0,.int .u32 0,.slice DA dn dc]):=⟨_,Lib.hid rfl⟩
 have CL:=Lib.hid (show CUR.length=14 by rw[HC.out];rfl)
 have CO:=Lib.hid (show ∀ v∈CUR,v.oneCell'=true by rw[HC.out];simp[Value.oneCell'])
 have HP:Hid (P={ h:={ k:=BitVec.ofNat 8 k,la:=b2,su:=b3,al:=y2,dg:=y3,mx:=w32 (sub bs 4 8) },da:=data }/\ok=(z0&&z8)):=Lib.hid (by
  have h:parse k fl bs data=({ h:={ k:=BitVec.ofNat 8 k,la:=b2,su:=b3,al:=y2,dg:=y3,mx:=w32 (sub bs 4 8) },da:=data },(z0&&z8)):=by
   rw[<-hb2,<-hb3,<-hy2,<-hy3,<-hz0,<-hz8,sub_full bs 8 120 hn.symm];unfold parse;rcases hk with rfl|rfl <;> rfl
  rw[h] at hp
  cases hp
  exact⟨rfl,rfl⟩)
 have HPC:Hid (∀ EA en ec,CUR.set 3 (.slice EA en ec)=pc P.h EA en ec DA dn dc):=Lib.hid (fun EA en ec=>by
  rw[HP.out.1,HC.out]
  show _=_
  unfold pc;rw[n8k (by omega)]
  rfl)
 have HDA:Hid (P.da=data):=Lib.hid (by rw[HP.out.1])
 have QQ:((k:Int)==0)=true\/((k:Int)==0)=false/\((k:Int)==1)=true:=by rcases hk with hk|hk <;> subst hk <;> decide
 have HN:=Lib.hid hn
 have HD:=Lib.hid hd
 clear hS hn hc hfl hp hk hd hb2 hb3
 rcases QQ with qa|⟨qa,qb⟩
 all_goals
  go_enter Tryz.func185,Tryz.ntmps185
  go_upto_region 5 with (first|((with_reducible refine Se.iL 8 ?_);(refine Se.Al hs rfl (HZ.out) ?_;clear hs;rintro w g8-hs))|((with_reducible refine Se.iL 22 ?_);(refine Se.Bd rfl rfl (rfl) ?_))|((with_reducible refine Se.iL 10 ?_);(refine Se.Al hs rfl (HZ.out) ?_;clear hs;rintro w g10-hs))|((with_reducible refine Se.iN ?_);(refine Se.Sow 0 hs rfl rfl rfl rfl (by simp[Value.oneCell']) (by kernel_rfl) (rfl) ?_;clear hs;intro w hs;try simp only[pS] at hs)))
  refine Ch.region' 16 (fun wx=>Rd wx (some ⟨g,off,none⟩) (bs.map v8)) (fun|8=>true|11=>true|13=>true|15=>true|_=>false) (by kernel_rfl) (by decide +kernel) (HS.out _ (fun a ha=>hs.drew.hold a (by simp[ha]))) ?_;replace hs:=hs.drew;generalize w.drew=w at hs ⊢;change Ch.CW _ _ _ _ _ [0,1,2,3,4,5,6,7,8,9,10,11,12,13,14,15] _ _
  iterate 8 ((first|refine Ch.pA ?_|refine Ch.pE (hv:=fun wx hS=>Se.xL (hc:=(Rd_c hS 2 V2.out))) (h:=?_)|refine Ch.pE (hv:=fun wx hS=>Se.xL (hc:=(Rd_c hS 3 V3.out))) (h:=?_));(try simp only[pU]))
  refine Ch.cA (f:=183) (args:=#[.slice (some ⟨g,off+4,none⟩) 4 (c-4)]) (CB4.out [_,_] _ hs) ?_;clear hs;rintro e w⟨rfl,hs⟩;refine⟨_,rfl,HS.out _ (fun a ha=>hs.hold a (by simp[ha])),?_⟩;(try simp only[pU])
  iterate 1 (refine Ch.pA ?_;(try simp only[pU]))
  iterate 1 (refine Ch.pA ?_;(try simp only[pU]))
  refine Ch.nA (h:=Se.so 0 (v:=.int .u8 (n8 y2)) hs rfl rfl rfl rfl rfl (by kernel_rfl) (by simp[pc]) ?_);clear hs;intro w hs;simp only[pS] at hs;refine⟨HS.out _ (fun a ha=>hs.hold a (by simp[ha])),?_⟩;(try simp only[pU])
  iterate 1 (refine Ch.pA ?_;(try simp only[pU]))
  refine Ch.nA (h:=Se.so 0 (v:=.int .u8 (n8 y3)) hs rfl rfl rfl rfl rfl (by kernel_rfl) (by simp[pc]) ?_);clear hs;intro w hs;simp only[pS] at hs;refine⟨HS.out _ (fun a ha=>hs.hold a (by simp[ha])),?_⟩;(try simp only[pU])
  iterate 1 (refine Ch.pA ?_;(try simp only[pU]))
  refine Ch.nA (h:=Se.so 0 (v:=.int .u32 (n32 (w32 (sub bs 4 8)))) hs rfl rfl rfl rfl rfl (by kernel_rfl) (by simp[pc]) ?_);clear hs;intro w hs;simp only[pS] at hs;refine⟨HS.out _ (fun a ha=>hs.hold a (by simp[ha])),?_⟩;(try simp only[pU]);refine Ch.done ?_
  try simp only[List.drop_succ_cons,List.drop_zero]
  replace hs:St w0 X ([.blk g10 65 CUR,.blk g8 65 (pc {} none 0 0 none 0 0)]++L) w:=by rw[HC.out];exact hs
  go_upto_region 6 with (fail)
  refine Ch.region' 11 (fun wx=>Rd wx (some ⟨g,off,none⟩) (bs.map v8)/\Blk wx g10 CUR 65) (fun|3=>true|7=>true|9=>true|_=>false) (by kernel_rfl) (by decide +kernel) (⟨HS.out _ (fun a ha=>hs.drew.hold a (by simp[ha])),hs.drew.hold (.blk g10 65 CUR) (by simp)⟩) ?_;replace hs:=hs.drew;generalize w.drew=w at hs ⊢;change Ch.CW _ _ _ _ _ [0,1,2,3,4,5,6,7,8,9,10] _ _
  iterate 3 (refine Gd.look (by rfl) ?_;(first|refine Gd.l0 (v:=.agg CUR.toArray) (hv:=fun wx hS=>Se.xla (by rfl) (by rfl) (Li.Rd.of_blk hS.2) (by rw[CL.out] <;> kernel_rfl) (by kernel_rfl)) (h:=?_)|refine Gd.l1 (v:=.agg CUR.toArray) (hv:=fun hb0 wx hS=>Se.xla (by rfl) (by rfl) (Li.Rd.of_blk hS.2) (by rw[CL.out] <;> kernel_rfl) (by kernel_rfl)) (h:=?_)|((first|refine Gd.p0 ?_|refine Gd.p1 ?_|refine Gd.b0 ?_|refine Gd.u0 ?_|refine Gd.b1 ?_|refine Gd.u1 ?_);intro _ _)|refine Gd.a0 ?_|refine Gd.a1 ?_);(try simp only[pU]))
  refine Ch.cA (f:=186) (args:=#[.slice (some ⟨g,off,none⟩) 2 c]) (CZ0.out [_,_] _ hs) ?_;clear hs;rintro e w⟨rfl,hs⟩;refine⟨_,rfl,⟨HS.out _ (fun a ha=>hs.hold a (by simp[ha])),hs.hold (.blk g10 65 CUR) (by simp)⟩,?_⟩;(try simp only[pU])
  iterate 1 (refine Gd.look (by rfl) ?_;(first|((first|refine Gd.p0 ?_|refine Gd.p1 ?_|refine Gd.b0 ?_|refine Gd.u0 ?_|refine Gd.b1 ?_|refine Gd.u1 ?_);intro _ _)|refine Gd.a0 ?_|refine Gd.a1 ?_);(try simp only[pU]))
  iterate 2 (refine Gd.look (by rfl) ?_;(first|((first|refine Gd.p0 ?_|refine Gd.p1 ?_|refine Gd.b0 ?_|refine Gd.u0 ?_|refine Gd.b1 ?_|refine Gd.u1 ?_);intro _ _)|refine Gd.a0 ?_|refine Gd.a1 ?_);(try simp only[pU]))
  refine Gd.gn (v:=.bool z8) (by rfl) (by rfl) (by first|exact Gd.want_t rfl rfl rfl|exact Gd.want_f rfl rfl rfl|exact Gd.want_mt rfl rfl rfl|exact Gd.want_mf rfl rfl rfl) hs (fun hb=>?_) (fun w hT=>?_)
  ·(try simp only[Bool.and_eq_true] at hb)
   refine Se.gcall (f:=186) (args:=#[.slice (some ⟨g,off+8,none⟩) 112 (c-8)]) ?_ ?_
   ·go_simp
   refine Calls.mono (CZ8.out [_,_] _ hs) ?_;clear hs;rintro e w⟨rfl,hs⟩;exact⟨_,rfl,rfl,hs⟩
  clear hs
  have hs:=hT
  clear hT;refine⟨⟨HS.out _ (fun a ha=>hs.hold a (by simp[ha])),hs.hold (.blk g10 65 CUR) (by simp)⟩,?_⟩;(try simp only[pU])
  iterate 1 (refine Gd.look (by rfl) ?_;(first|((first|refine Gd.p0 ?_|refine Gd.p1 ?_|refine Gd.b0 ?_|refine Gd.u0 ?_|refine Gd.b1 ?_|refine Gd.u1 ?_);intro _ _)|refine Gd.a0 ?_|refine Gd.a1 ?_);(try simp only[pU]))
  refine Ch.nA (h:=Se.sow 1 (vs:=CUR) hs rfl rfl rfl rfl CO.out (by rw[CL.out] <;> kernel_rfl) (by rw[CL.out];rfl) ?_);clear hs;intro w hs;simp only[List.cons_append,List.nil_append,List.set_cons_zero,List.set_cons_succ] at hs;refine⟨⟨HS.out _ (fun a ha=>hs.hold a (by simp[ha])),hs.hold (.blk g10 65 CUR) (by simp)⟩,?_⟩;(try simp only[pU])
  iterate 1 (refine Gd.look (by rfl) ?_;(first|((first|refine Gd.p0 ?_|refine Gd.p1 ?_|refine Gd.b0 ?_|refine Gd.u0 ?_|refine Gd.b1 ?_|refine Gd.u1 ?_);intro _ _)|refine Gd.a0 ?_|refine Gd.a1 ?_);(try simp only[pU]))
  refine Ch.done ?_
  try simp only[List.drop_succ_cons,List.drop_zero]
  go_wp2_with fail
  refine Se.ret hs [.agg CUR.toArray,.bool _] rfl ⟨Se.resRow rfl (Reads.blk 1 rfl) (by kernel_rfl) (by rw[CL.out] <;> kernel_rfl),rfl,trivial⟩ (by simp) rfl ?_;refine⟨none,0,0,?_,by rw[HP.out.1];rfl,Or.inl (by rw[HP.out.1]),HDA.out,hs.drop.drop⟩;rw[<-HPC.out none 0 0,HP.out.2,show CUR.set 3 (.slice none 0 0)=CUR by rw[HC.out];rfl];unfold Hid at *
  subst_vars
  rfl
theorem parse23(hs:St w0 X L w){k:Nat}(hk:k=2\/k=3)(fl:Nat)(hfl:fl<256)(bs data:List (BitVec 8)){g off c dn dc:Nat}{DA:Option Addr}(hn:bs.length=16)(hc:16<=c)(hS:Reads L (some ⟨g,off,none⟩) (bs.map v8))(hd:dn=data.length){P:PDU}{ok:Bool}(hp:parse k fl bs data=(P,ok)) :
  Calls Tryz.prog 185 #[iv k,iv fl,.slice (some ⟨g,off,none⟩) 16 c,.slice DA dn dc] w fun e w'=>∃ EA en ec,e=.returned (.tuple #[.agg (pc P.h EA en ec DA dn dc).toArray,.bool ok])/\en=P.en.length/\(P.en=[]\/EA=some ⟨g,off,none⟩/\P.en=bs)/\P.da=data/\St w0 X L w':=by
 obtain⟨v2,v3,-,-⟩:=bitI hfl
 obtain⟨b2,hb2⟩:∃ b,bit fl 2=b:=⟨_,rfl⟩
 obtain⟨b3,hb3⟩:∃ b,bit fl 3=b:=⟨_,rfl⟩
 rw[hb2] at v2;rw[hb3] at v3
 have v2':((wrap64 ((fl:Int) / 4)).tmod 2==1)=b2:=by rw[<-IntWalk.i64_left];exact v2
 have v3':((wrap64 ((fl:Int) / 8)).tmod 2==1)=b3:=by rw[<-IntWalk.i64_left];exact v3
 have wk:IntKind.u8.wrap (k:Int)=k:=IntWalk.u8_in _ (by omega)
 have HZ:=Lib.hid zPdu2
 have HS:=Lib.hid hS
 have CB0:=big_at (w0:=w0) (X:=X) (c:=c) hS 0 2 2 rfl (by omega) (by omega) (A:=⟨g,off,none⟩) rfl
 have CB2:=big_at (w0:=w0) (X:=X) (c:=(c-2)) hS 2 6 4 rfl (by omega) (by omega) (A:=⟨g,off+2,none⟩) rfl
 obtain⟨z6,hz6⟩:∃ z,zeros (sub bs 6 16)=z:=⟨_,rfl⟩
 have CZ6:=rzeros_at (w0:=w0) (X:=X) (c:=(c-6)) hS 6 16 10 rfl (by omega) (by omega) (A:=⟨g,off+6,none⟩) rfl hz6
 have e0:IntKind.u16.wrap (bigL (bs.take 2):Int)=n16 (w16 (bs.take 2)):=by simpa [sub] using wrap16b bs 0 2
 have e2:=wrap32b bs 2 6
 have ia2:(2:Int)<=(c:Int):=by omega
 have ib2:2<=c:=by omega
 have id2:¬ c=2:=by omega
 have ia6:(6:Int)<=(c:Int):=by omega
 have ib6:6<=c:=by omega
 have id6:¬ c=6:=by omega
 obtain⟨CUR,HC⟩:∃ CUR:List Value,Hid (CUR=[.int .u8 (k:Int),.bool b2,.bool b3,.slice none 0 0,.int .u16 0,.int .u16 0,.int .u32 0,.int .u32 0,.int .u8 0,.int .u8 0,.int .u32 0,.int .u16 (n16 (w16 (bs.take 2))),.int .u32 (n32 (w32 (sub bs 2 6))),.slice DA dn dc]):=⟨_,Lib.hid rfl⟩
 have CL:=Lib.hid (show CUR.length=14 by rw[HC.out];rfl)
 have CO:=Lib.hid (show ∀ v∈CUR,v.oneCell'=true by rw[HC.out];simp[Value.oneCell'])
 have HP:Hid (P={ h:={ k:=BitVec.ofNat 8 k,la:=b2,su:=b3,st:=w16 (bs.take 2),nf:=w32 (sub bs 2 6) },da:=data }/\ok=z6):=Lib.hid (by
  have h:parse k fl bs data=({ h:={ k:=BitVec.ofNat 8 k,la:=b2,su:=b3,st:=w16 (bs.take 2),nf:=w32 (sub bs 2 6) },da:=data },z6):=by
   rw[<-hb2,<-hb3,<-hz6,sub_full bs 6 16 hn.symm];unfold parse;rcases hk with rfl|rfl <;> rfl
  rw[h] at hp
  cases hp
  exact⟨rfl,rfl⟩)
 have HPC:Hid (∀ EA en ec,CUR.set 3 (.slice EA en ec)=pc P.h EA en ec DA dn dc):=Lib.hid (fun EA en ec=>by
  rw[HP.out.1,HC.out]
  show _=_
  unfold pc;rw[n8k (by omega)]
  rfl)
 have HDA:Hid (P.da=data):=Lib.hid (by rw[HP.out.1])
 have q0:((k:Int)==0)=false:=by rw[Bool.eq_iff_iff];simp;omega
 have q1:((k:Int)==1)=false:=by rw[Bool.eq_iff_iff];simp;omega
 have QQ:((k:Int)==2)=true\/((k:Int)==2)=false/\((k:Int)==3)=true:=by rcases hk with hk|hk <;> subst hk <;> decide
 have HN:=Lib.hid hn
 have HD:=Lib.hid hd
 clear hS hn hc hfl hp hk hd hb2 hb3
 rcases QQ with qa|⟨qa,qb⟩
 all_goals
  go_enter Tryz.func185,Tryz.ntmps185
  go_upto_region 9 with (first|((with_reducible refine Se.iL 8 ?_);(refine Se.Al hs rfl (HZ.out) ?_;clear hs;rintro w g8-hs))|((with_reducible refine Se.iL 22 ?_);(refine Se.Bd rfl rfl (rfl) ?_))|((with_reducible refine Se.iL 10 ?_);(refine Se.Al hs rfl (HZ.out) ?_;clear hs;rintro w g10-hs))|((with_reducible refine Se.iN ?_);(refine Se.Sow 0 hs rfl rfl rfl rfl (by simp[Value.oneCell']) (by kernel_rfl) (rfl) ?_;clear hs;intro w hs;try simp only[pS] at hs)))
  refine Ch.region' 12 (fun _=>True) (fun|2=>true|6=>true|9=>true|11=>true|_=>false) (by kernel_rfl) (by decide +kernel) (trivial) ?_;replace hs:=hs.drew;generalize w.drew=w at hs ⊢;change Ch.CW _ _ _ _ _ [0,1,2,3,4,5,6,7,8,9,10,11] _ _
  iterate 2 (refine Ch.pA ?_;(try simp only[pU]))
  refine Ch.cA (f:=183) (args:=#[.slice (some ⟨g,off,none⟩) 2 c]) (CB0.out [_,_] _ hs) ?_;clear hs;rintro e w⟨rfl,hs⟩;refine⟨_,rfl,trivial,?_⟩;(try simp only[pU])
  iterate 3 (refine Ch.pA ?_;(try simp only[pU]))
  refine Ch.cA (f:=183) (args:=#[.slice (some ⟨g,off+2,none⟩) 4 (c-2)]) (CB2.out [_,_] _ hs) ?_;clear hs;rintro e w⟨rfl,hs⟩;refine⟨_,rfl,trivial,?_⟩;(try simp only[pU])
  iterate 1 (refine Ch.pA ?_;(try simp only[pU]))
  iterate 1 (refine Ch.pA ?_;(try simp only[pU]))
  refine Ch.nA (h:=Se.so 0 (v:=.int .u16 (n16 (w16 (bs.take 2)))) hs rfl rfl rfl rfl rfl (by kernel_rfl) (by simp[pc]) ?_);clear hs;intro w hs;simp only[pS] at hs;refine⟨trivial,?_⟩;(try simp only[pU])
  iterate 1 (refine Ch.pA ?_;(try simp only[pU]))
  refine Ch.nA (h:=Se.so 0 (v:=.int .u32 (n32 (w32 (sub bs 2 6)))) hs rfl rfl rfl rfl rfl (by kernel_rfl) (by simp[pc]) ?_);clear hs;intro w hs;simp only[pS] at hs;refine⟨trivial,?_⟩;(try simp only[pU]);refine Ch.done ?_
  try simp only[List.drop_succ_cons,List.drop_zero]
  replace hs:St w0 X ([.blk g10 65 CUR,.blk g8 65 (pc {} none 0 0 none 0 0)]++L) w:=by rw[HC.out];exact hs
  go_upto_region 10 with (fail)
  refine Ch.region' 6 (fun wx=>Rd wx (some ⟨g,off,none⟩) (bs.map v8)/\Blk wx g10 CUR 65) (fun|3=>true|4=>true|_=>false) (by kernel_rfl) (by decide +kernel) (⟨HS.out _ (fun a ha=>hs.drew.hold a (by simp[ha])),hs.drew.hold (.blk g10 65 CUR) (by simp)⟩) ?_;replace hs:=hs.drew;generalize w.drew=w at hs ⊢;change Ch.CW _ _ _ _ _ [0,1,2,3,4,5] _ _
  iterate 3 (refine Gd.look (by rfl) ?_;(first|refine Gd.l0 (v:=.agg CUR.toArray) (hv:=fun wx hS=>Se.xla (by rfl) (by rfl) (Li.Rd.of_blk hS.2) (by rw[CL.out] <;> kernel_rfl) (by kernel_rfl)) (h:=?_)|refine Gd.l1 (v:=.agg CUR.toArray) (hv:=fun hb0 wx hS=>Se.xla (by rfl) (by rfl) (Li.Rd.of_blk hS.2) (by rw[CL.out] <;> kernel_rfl) (by kernel_rfl)) (h:=?_)|((first|refine Gd.p0 ?_|refine Gd.p1 ?_|refine Gd.b0 ?_|refine Gd.u0 ?_|refine Gd.b1 ?_|refine Gd.u1 ?_);intro _ _)|refine Gd.a0 ?_|refine Gd.a1 ?_);(try simp only[pU]))
  refine Ch.cA (f:=186) (args:=#[.slice (some ⟨g,off+6,none⟩) 10 (c-6)]) (CZ6.out [_,_] _ hs) ?_;clear hs;rintro e w⟨rfl,hs⟩;refine⟨_,rfl,⟨HS.out _ (fun a ha=>hs.hold a (by simp[ha])),hs.hold (.blk g10 65 CUR) (by simp)⟩,?_⟩;(try simp only[pU]);refine Ch.nA (h:=Se.sow 1 (vs:=CUR) hs rfl rfl rfl rfl CO.out (by rw[CL.out] <;> kernel_rfl) (by rw[CL.out];rfl) ?_);clear hs;intro w hs;simp only[List.cons_append,List.nil_append,List.set_cons_zero,List.set_cons_succ] at hs;refine⟨⟨HS.out _ (fun a ha=>hs.hold a (by simp[ha])),hs.hold (.blk g10 65 CUR) (by simp)⟩,?_⟩;(try simp only[pU])
  iterate 1 (refine Gd.look (by rfl) ?_;(first|((first|refine Gd.p0 ?_|refine Gd.p1 ?_|refine Gd.b0 ?_|refine Gd.u0 ?_|refine Gd.b1 ?_|refine Gd.u1 ?_);intro _ _)|refine Gd.a0 ?_|refine Gd.a1 ?_);(try simp only[pU]))
  refine Ch.done ?_
  try simp only[List.drop_succ_cons,List.drop_zero]
  go_wp2_with fail
  refine Se.ret hs [.agg CUR.toArray,.bool _] rfl ⟨Se.resRow rfl (Reads.blk 1 rfl) (by kernel_rfl) (by rw[CL.out] <;> kernel_rfl),rfl,trivial⟩ (by simp) rfl ?_;refine⟨none,0,0,?_,by rw[HP.out.1];rfl,Or.inl (by rw[HP.out.1]),HDA.out,hs.drop.drop⟩;rw[<-HPC.out none 0 0,HP.out.2,show CUR.set 3 (.slice none 0 0)=CUR by rw[HC.out];rfl]
theorem parse45(hs:St w0 X L w){k:Nat}(hk:k=4\/k=5)(fl:Nat)(hfl:fl<256)(bs data:List (BitVec 8)){g off c dn dc:Nat}{DA:Option Addr}{n:Nat}(hn:bs.length=n)(hc:n<=c)(hS:Reads L (some ⟨g,off,none⟩) (bs.map v8))(hd:dn=data.length){P:PDU}{ok:Bool}(hp:parse k fl bs data=(P,ok)) :
  Calls Tryz.prog 185 #[iv k,iv fl,.slice (some ⟨g,off,none⟩) n c,.slice DA dn dc] w fun e w'=>∃ EA en ec,e=.returned (.tuple #[.agg (pc P.h EA en ec DA dn dc).toArray,.bool ok])/\en=P.en.length/\(P.en=[]\/EA=some ⟨g,off,none⟩/\P.en=bs)/\P.da=data/\St w0 X L w':=by
 obtain⟨v2,v3,-,-⟩:=bitI hfl
 obtain⟨b2,hb2⟩:∃ b,bit fl 2=b:=⟨_,rfl⟩
 obtain⟨b3,hb3⟩:∃ b,bit fl 3=b:=⟨_,rfl⟩
 rw[hb2] at v2;rw[hb3] at v3
 have v2':((wrap64 ((fl:Int) / 4)).tmod 2==1)=b2:=by rw[<-IntWalk.i64_left];exact v2
 have v3':((wrap64 ((fl:Int) / 8)).tmod 2==1)=b3:=by rw[<-IntWalk.i64_left];exact v3
 have wk:IntKind.u8.wrap (k:Int)=k:=IntWalk.u8_in _ (by omega)
 have HZ:=Lib.hid zPdu2
 have HS:=Lib.hid hS
 obtain⟨CUR,HC⟩:∃ CUR:List Value,Hid (CUR=[.int .u8 (k:Int),.bool b2,.bool b3,.slice (some ⟨g,off,none⟩) n c,.int .u16 0,.int .u16 0,.int .u32 0,.int .u32 0,.int .u8 0,.int .u8 0,.int .u32 0,.int .u16 0,.int .u32 0,.slice DA dn dc]):=⟨_,Lib.hid rfl⟩
 have CL:=Lib.hid (show CUR.length=14 by rw[HC.out];rfl)
 have CO:=Lib.hid (show ∀ v∈CUR,v.oneCell'=true by rw[HC.out];simp[Value.oneCell'])
 have HP:Hid (P={ h:={ k:=BitVec.ofNat 8 k,la:=b2,su:=b3 },en:=bs,da:=data }/\ok=true):=Lib.hid (by
  have h:parse k fl bs data=({ h:={ k:=BitVec.ofNat 8 k,la:=b2,su:=b3 },en:=bs,da:=data },true):=by
   rw[<-hb2,<-hb3];unfold parse;rcases hk with rfl|rfl <;> rfl
  rw[h] at hp
  cases hp
  exact⟨rfl,rfl⟩)
 have HPC:Hid (∀ EA en ec,CUR.set 3 (.slice EA en ec)=pc P.h EA en ec DA dn dc):=Lib.hid (fun EA en ec=>by
  rw[HP.out.1,HC.out]
  show _=_
  unfold pc;rw[n8k (by omega)]
  rfl)
 have HDA:Hid (P.da=data):=Lib.hid (by rw[HP.out.1])
 have q0:((k:Int)==0)=false:=by rw[Bool.eq_iff_iff];simp;omega
 have q1:((k:Int)==1)=false:=by rw[Bool.eq_iff_iff];simp;omega
 have q2:((k:Int)==2)=false:=by rw[Bool.eq_iff_iff];simp;omega
 have q3:((k:Int)==3)=false:=by rw[Bool.eq_iff_iff];simp;omega
 have QQ:((k:Int)==4)=true\/((k:Int)==4)=false/\((k:Int)==5)=true:=by rcases hk with hk|hk <;> subst hk <;> decide
 have HN:=Lib.hid hn
 have HD:=Lib.hid hd
 clear hS hn hc hfl hp hk hd hb2 hb3
 rcases QQ with qa|⟨qa,qb⟩
 all_goals
  go_enter Tryz.func185,Tryz.ntmps185
  go_upto_region 14 with (first|((with_reducible refine Se.iL 8 ?_);(refine Se.Al hs rfl (HZ.out) ?_;clear hs;rintro w g8-hs))|((with_reducible refine Se.iL 22 ?_);(refine Se.Bd rfl rfl (rfl) ?_))|((with_reducible refine Se.iL 10 ?_);(refine Se.Al hs rfl (HZ.out) ?_;clear hs;rintro w g10-hs))|((with_reducible refine Se.iN ?_);(refine Se.Sow 0 hs rfl rfl rfl rfl (by simp[Value.oneCell']) (by kernel_rfl) (rfl) ?_;clear hs;intro w hs;try simp only[pS] at hs))|((with_reducible refine Se.iN ?_);(refine Se.So 0 hs rfl rfl rfl (by simp[pc]) ?_;clear hs;intro w hs;try simp only[pS] at hs)))
  replace hs:St w0 X ([.blk g10 65 CUR,.blk g8 65 (pc {} none 0 0 none 0 0)]++L) w:=by rw[HC.out];exact hs
  go_wp2_with (first|((with_reducible refine Se.iL 71 ?_);(refine Se.Ldw hs rfl rfl (Reads.blk 0 rfl) (by rw[CL.out];kernel_rfl) ?_))|((with_reducible refine Se.iN ?_);(refine Se.Sow 1 hs rfl rfl rfl rfl (CO.out) (by rw[CL.out];kernel_rfl) (by rw[CL.out];rfl) ?_;clear hs;intro w hs;try simp only[pS] at hs)))
  refine Se.ret hs [.agg CUR.toArray,.bool _] rfl ⟨Se.resRow rfl (Reads.blk 1 rfl) (by kernel_rfl) (by rw[CL.out] <;> kernel_rfl),rfl,trivial⟩ (by simp) rfl ?_;refine⟨some ⟨g,off,none⟩,n,c,?_,by rw[HP.out.1,<-HN.out],Or.inr ⟨rfl,by rw[HP.out.1]⟩,HDA.out,hs.drop.drop⟩;rw[<-HPC.out _ _ _,HP.out.2,show CUR.set 3 (.slice (some ⟨g,off,none⟩) n c)=CUR by rw[HC.out];rfl]
theorem parse9(hs:St w0 X L w){k:Nat}(hk:k=9)(fl:Nat)(hfl:fl<256)(bs data:List (BitVec 8)){g off c dn dc:Nat}{DA:Option Addr}(hn:bs.length=16)(hc:16<=c)(hS:Reads L (some ⟨g,off,none⟩) (bs.map v8))(hd:dn=data.length){P:PDU}{ok:Bool}(hp:parse k fl bs data=(P,ok)) :
  Calls Tryz.prog 185 #[iv k,iv fl,.slice (some ⟨g,off,none⟩) 16 c,.slice DA dn dc] w fun e w'=>∃ EA en ec,e=.returned (.tuple #[.agg (pc P.h EA en ec DA dn dc).toArray,.bool ok])/\en=P.en.length/\(P.en=[]\/EA=some ⟨g,off,none⟩/\P.en=bs)/\P.da=data/\St w0 X L w':=by
 obtain⟨v2,v3,-,-⟩:=bitI hfl
 obtain⟨b2,hb2⟩:∃ b,bit fl 2=b:=⟨_,rfl⟩
 obtain⟨b3,hb3⟩:∃ b,bit fl 3=b:=⟨_,rfl⟩
 rw[hb2] at v2;rw[hb3] at v3
 have v2':((wrap64 ((fl:Int) / 4)).tmod 2==1)=b2:=by rw[<-IntWalk.i64_left];exact v2
 have v3':((wrap64 ((fl:Int) / 8)).tmod 2==1)=b3:=by rw[<-IntWalk.i64_left];exact v3
 have wk:IntKind.u8.wrap (k:Int)=k:=IntWalk.u8_in _ (by omega)
 have HZ:=Lib.hid zPdu2
 have HS:=Lib.hid hS
 have CB0:=big_at (w0:=w0) (X:=X) (c:=c) hS 0 2 2 rfl (by omega) (by omega) (A:=⟨g,off,none⟩) rfl
 have CB2:=big_at (w0:=w0) (X:=X) (c:=(c-2)) hS 2 4 2 rfl (by omega) (by omega) (A:=⟨g,off+2,none⟩) rfl
 have CB4:=big_at (w0:=w0) (X:=X) (c:=(c-4)) hS 4 8 4 rfl (by omega) (by omega) (A:=⟨g,off+4,none⟩) rfl
 have CB8:=big_at (w0:=w0) (X:=X) (c:=(c-8)) hS 8 12 4 rfl (by omega) (by omega) (A:=⟨g,off+8,none⟩) rfl
 obtain⟨z12,hz12⟩:∃ z,zeros (sub bs 12 16)=z:=⟨_,rfl⟩
 have CZ12:=rzeros_at (w0:=w0) (X:=X) (c:=(c-12)) hS 12 16 4 rfl (by omega) (by omega) (A:=⟨g,off+12,none⟩) rfl hz12
 have e0:IntKind.u16.wrap (bigL (bs.take 2):Int)=n16 (w16 (bs.take 2)):=by simpa [sub] using wrap16b bs 0 2
 have e2:=wrap16b bs 2 4
 have e4:=wrap32b bs 4 8
 have e8:=wrap32b bs 8 12
 have ia2:(2:Int)<=(c:Int):=by omega
 have ib2:2<=c:=by omega
 have id2:¬ c=2:=by omega
 have ia4:(4:Int)<=(c:Int):=by omega
 have ib4:4<=c:=by omega
 have id4:¬ c=4:=by omega
 have ia8:(8:Int)<=(c:Int):=by omega
 have ib8:8<=c:=by omega
 have id8:¬ c=8:=by omega
 have ia12:(12:Int)<=(c:Int):=by omega
 have ib12:12<=c:=by omega
 have id12:¬ c=12:=by omega
 obtain⟨CUR,HC⟩:∃ CUR:List Value,Hid (CUR=[.int .u8 (k:Int),.bool b2,.bool b3,.slice none 0 0,.int .u16 (n16 (w16 (bs.take 2))),.int .u16 (n16 (w16 (sub bs 2 4))),.int .u32 (n32 (w32 (sub bs 4 8))),.int .u32 (n32 (w32 (sub bs 8 12))),.int .u8 0,.int .u8 0,.int .u32 0,.int .u16 0,.int .u32 0,.slice DA dn dc]):=⟨_,Lib.hid rfl⟩
 have CL:=Lib.hid (show CUR.length=14 by rw[HC.out];rfl)
 have CO:=Lib.hid (show ∀ v∈CUR,v.oneCell'=true by rw[HC.out];simp[Value.oneCell'])
 have HP:Hid (P={ h:={ k:=BitVec.ofNat 8 k,la:=b2,su:=b3,id:=w16 (bs.take 2),tg:=w16 (sub bs 2 4),of:=w32 (sub bs 4 8),ln:=w32 (sub bs 8 12) },da:=data }/\ok=z12):=Lib.hid (by
  have h:parse k fl bs data=({ h:={ k:=BitVec.ofNat 8 k,la:=b2,su:=b3,id:=w16 (bs.take 2),tg:=w16 (sub bs 2 4),of:=w32 (sub bs 4 8),ln:=w32 (sub bs 8 12) },da:=data },z12):=by
   rw[<-hb2,<-hb3,<-hz12,sub_full bs 12 16 hn.symm];unfold parse;subst hk;rfl
  rw[h] at hp
  cases hp
  exact⟨rfl,rfl⟩)
 have HPC:Hid (∀ EA en ec,CUR.set 3 (.slice EA en ec)=pc P.h EA en ec DA dn dc):=Lib.hid (fun EA en ec=>by
  rw[HP.out.1,HC.out]
  show _=_
  unfold pc;rw[n8k (by omega)]
  rfl)
 have HDA:Hid (P.da=data):=Lib.hid (by rw[HP.out.1])
 have q0:((k:Int)==0)=false:=by rw[Bool.eq_iff_iff];simp;omega
 have q1:((k:Int)==1)=false:=by rw[Bool.eq_iff_iff];simp;omega
 have q2:((k:Int)==2)=false:=by rw[Bool.eq_iff_iff];simp;omega
 have q3:((k:Int)==3)=false:=by rw[Bool.eq_iff_iff];simp;omega
 have q4:((k:Int)==4)=false:=by rw[Bool.eq_iff_iff];simp;omega
 have q5:((k:Int)==5)=false:=by rw[Bool.eq_iff_iff];simp;omega
 have q9:((k:Int)==9)=true:=by rw[Bool.eq_iff_iff];simp;omega
 have HN:=Lib.hid hn
 have HD:=Lib.hid hd
 clear hS hn hc hfl hp hk hd hb2 hb3
 go_enter Tryz.func185,Tryz.ntmps185
 go_upto_region 15 with (first|((with_reducible refine Se.iL 8 ?_);(refine Se.Al hs rfl (HZ.out) ?_;clear hs;rintro w g8-hs))|((with_reducible refine Se.iL 22 ?_);(refine Se.Bd rfl rfl (rfl) ?_))|((with_reducible refine Se.iL 10 ?_);(refine Se.Al hs rfl (HZ.out) ?_;clear hs;rintro w g10-hs))|((with_reducible refine Se.iN ?_);(refine Se.Sow 0 hs rfl rfl rfl rfl (by simp[Value.oneCell']) (by kernel_rfl) (rfl) ?_;clear hs;intro w hs;try simp only[pS] at hs)))
 refine Ch.region' 18 (fun _=>True) (fun|2=>true|6=>true|10=>true|13=>true|15=>true|17=>true|_=>false) (by kernel_rfl) (by decide +kernel) (trivial) ?_;replace hs:=hs.drew;generalize w.drew=w at hs ⊢;change Ch.CW _ _ _ _ _ [0,1,2,3,4,5,6,7,8,9,10,11,12,13,14,15,16,17] _ _
 iterate 2 (refine Ch.pA ?_;(try simp only[pU]))
 refine Ch.cA (f:=183) (args:=#[.slice (some ⟨g,off,none⟩) 2 c]) (CB0.out [_,_] _ hs) ?_;clear hs;rintro e w⟨rfl,hs⟩;refine⟨_,rfl,trivial,?_⟩;(try simp only[pU])
 iterate 3 (refine Ch.pA ?_;(try simp only[pU]))
 refine Ch.cA (f:=183) (args:=#[.slice (some ⟨g,off+2,none⟩) 2 (c-2)]) (CB2.out [_,_] _ hs) ?_;clear hs;rintro e w⟨rfl,hs⟩;refine⟨_,rfl,trivial,?_⟩;(try simp only[pU])
 iterate 3 (refine Ch.pA ?_;(try simp only[pU]))
 refine Ch.cA (f:=183) (args:=#[.slice (some ⟨g,off+4,none⟩) 4 (c-4)]) (CB4.out [_,_] _ hs) ?_;clear hs;rintro e w⟨rfl,hs⟩;refine⟨_,rfl,trivial,?_⟩;(try simp only[pU])
 iterate 1 (refine Ch.pA ?_;(try simp only[pU]))
 iterate 1 (refine Ch.pA ?_;(try simp only[pU]))
 refine Ch.nA (h:=Se.so 0 (v:=.int .u16 (n16 (w16 (bs.take 2)))) hs rfl rfl rfl rfl rfl (by kernel_rfl) (by simp[pc]) ?_);clear hs;intro w hs;simp only[pS] at hs;refine⟨trivial,?_⟩;(try simp only[pU])
 iterate 1 (refine Ch.pA ?_;(try simp only[pU]))
 refine Ch.nA (h:=Se.so 0 (v:=.int .u16 (n16 (w16 (sub bs 2 4)))) hs rfl rfl rfl rfl rfl (by kernel_rfl) (by simp[pc]) ?_);clear hs;intro w hs;simp only[pS] at hs;refine⟨trivial,?_⟩;(try simp only[pU])
 iterate 1 (refine Ch.pA ?_;(try simp only[pU]))
 refine Ch.nA (h:=Se.so 0 (v:=.int .u32 (n32 (w32 (sub bs 4 8)))) hs rfl rfl rfl rfl rfl (by kernel_rfl) (by simp[pc]) ?_);clear hs;intro w hs;simp only[pS] at hs;refine⟨trivial,?_⟩;(try simp only[pU]);refine Ch.done ?_
 try simp only[List.drop_succ_cons,List.drop_zero]
 go_upto_region 18 with (first|((with_reducible refine Se.iN ?_);(refine Se.So 0 hs rfl rfl rfl (by simp[pc]) ?_;clear hs;intro w hs;try simp only[pS] at hs))|(go_at_call 183;refine Calls.mono (CB8.out [_,_] _ hs) ?_;clear hs;rintro e w ⟨rfl,hs⟩))
 replace hs:St w0 X ([.blk g10 65 CUR,.blk g8 65 (pc {} none 0 0 none 0 0)]++L) w:=by rw[HC.out];exact hs
 refine Ch.region' 6 (fun wx=>Rd wx (some ⟨g,off,none⟩) (bs.map v8)/\Blk wx g10 CUR 65) (fun|3=>true|4=>true|_=>false) (by kernel_rfl) (by decide +kernel) (⟨HS.out _ (fun a ha=>hs.drew.hold a (by simp[ha])),hs.drew.hold (.blk g10 65 CUR) (by simp)⟩) ?_;replace hs:=hs.drew;generalize w.drew=w at hs ⊢;change Ch.CW _ _ _ _ _ [0,1,2,3,4,5] _ _
 iterate 3 (refine Gd.look (by rfl) ?_;(first|refine Gd.l0 (v:=.agg CUR.toArray) (hv:=fun wx hS=>Se.xla (by rfl) (by rfl) (Li.Rd.of_blk hS.2) (by rw[CL.out] <;> kernel_rfl) (by kernel_rfl)) (h:=?_)|refine Gd.l1 (v:=.agg CUR.toArray) (hv:=fun hb0 wx hS=>Se.xla (by rfl) (by rfl) (Li.Rd.of_blk hS.2) (by rw[CL.out] <;> kernel_rfl) (by kernel_rfl)) (h:=?_)|((first|refine Gd.p0 ?_|refine Gd.p1 ?_|refine Gd.b0 ?_|refine Gd.u0 ?_|refine Gd.b1 ?_|refine Gd.u1 ?_);intro _ _)|refine Gd.a0 ?_|refine Gd.a1 ?_);(try simp only[pU]))
 refine Ch.cA (f:=186) (args:=#[.slice (some ⟨g,off+12,none⟩) 4 (c-12)]) (CZ12.out [_,_] _ hs) ?_;clear hs;rintro e w⟨rfl,hs⟩;refine⟨_,rfl,⟨HS.out _ (fun a ha=>hs.hold a (by simp[ha])),hs.hold (.blk g10 65 CUR) (by simp)⟩,?_⟩;(try simp only[pU]);refine Ch.nA (h:=Se.sow 1 (vs:=CUR) hs rfl rfl rfl rfl CO.out (by rw[CL.out] <;> kernel_rfl) (by rw[CL.out];rfl) ?_);clear hs;intro w hs;simp only[List.cons_append,List.nil_append,List.set_cons_zero,List.set_cons_succ] at hs;refine⟨⟨HS.out _ (fun a ha=>hs.hold a (by simp[ha])),hs.hold (.blk g10 65 CUR) (by simp)⟩,?_⟩;(try simp only[pU])
 iterate 1 (refine Gd.look (by rfl) ?_;(first|((first|refine Gd.p0 ?_|refine Gd.p1 ?_|refine Gd.b0 ?_|refine Gd.u0 ?_|refine Gd.b1 ?_|refine Gd.u1 ?_);intro _ _)|refine Gd.a0 ?_|refine Gd.a1 ?_);(try simp only[pU]))
 refine Ch.done ?_
 try simp only[List.drop_succ_cons,List.drop_zero]
 go_wp2_with fail
 refine Se.ret hs [.agg CUR.toArray,.bool _] rfl ⟨Se.resRow rfl (Reads.blk 1 rfl) (by kernel_rfl) (by rw[CL.out] <;> kernel_rfl),rfl,trivial⟩ (by simp) rfl ?_;refine⟨none,0,0,?_,by rw[HP.out.1];rfl,Or.inl (by rw[HP.out.1]),HDA.out,hs.drop.drop⟩;rw[<-HPC.out none 0 0,HP.out.2,show CUR.set 3 (.slice none 0 0)=CUR by rw[HC.out];rfl]
theorem parse67(hs:St w0 X L w){k:Nat}(hk:k=6\/k=7)(fl:Nat)(hfl:fl<256)(bs data:List (BitVec 8)){g off c dn dc:Nat}{DA:Option Addr}(hn:bs.length=16)(hc:16<=c)(hS:Reads L (some ⟨g,off,none⟩) (bs.map v8))(hd:dn=data.length){P:PDU}{ok:Bool}(hp:parse k fl bs data=(P,ok)) :
  Calls Tryz.prog 185 #[iv k,iv fl,.slice (some ⟨g,off,none⟩) 16 c,.slice DA dn dc] w fun e w'=>∃ EA en ec,e=.returned (.tuple #[.agg (pc P.h EA en ec DA dn dc).toArray,.bool ok])/\en=P.en.length/\(P.en=[]\/EA=some ⟨g,off,none⟩/\P.en=bs)/\P.da=data/\St w0 X L w':=by
 obtain⟨v2,v3,-,-⟩:=bitI hfl
 obtain⟨b2,hb2⟩:∃ b,bit fl 2=b:=⟨_,rfl⟩
 obtain⟨b3,hb3⟩:∃ b,bit fl 3=b:=⟨_,rfl⟩
 rw[hb2] at v2;rw[hb3] at v3
 have v2':((wrap64 ((fl:Int) / 4)).tmod 2==1)=b2:=by rw[<-IntWalk.i64_left];exact v2
 have v3':((wrap64 ((fl:Int) / 8)).tmod 2==1)=b3:=by rw[<-IntWalk.i64_left];exact v3
 have wk:IntKind.u8.wrap (k:Int)=k:=IntWalk.u8_in _ (by omega)
 have HZ:=Lib.hid zPdu2
 have HS:=Lib.hid hS
 have CB0:=big_at (w0:=w0) (X:=X) (c:=c) hS 0 2 2 rfl (by omega) (by omega) (A:=⟨g,off,none⟩) rfl
 have CB2:=big_at (w0:=w0) (X:=X) (c:=(c-2)) hS 2 4 2 rfl (by omega) (by omega) (A:=⟨g,off+2,none⟩) rfl
 have CB4:=big_at (w0:=w0) (X:=X) (c:=(c-4)) hS 4 8 4 rfl (by omega) (by omega) (A:=⟨g,off+4,none⟩) rfl
 have CB8:=big_at (w0:=w0) (X:=X) (c:=(c-8)) hS 8 12 4 rfl (by omega) (by omega) (A:=⟨g,off+8,none⟩) rfl
 obtain⟨z12,hz12⟩:∃ z,zeros (sub bs 12 16)=z:=⟨_,rfl⟩
 have CZ12:=rzeros_at (w0:=w0) (X:=X) (c:=(c-12)) hS 12 16 4 rfl (by omega) (by omega) (A:=⟨g,off+12,none⟩) rfl hz12
 have e0:IntKind.u16.wrap (bigL (bs.take 2):Int)=n16 (w16 (bs.take 2)):=by simpa [sub] using wrap16b bs 0 2
 have e2:=wrap16b bs 2 4
 have e4:=wrap32b bs 4 8
 have e8:=wrap32b bs 8 12
 have ia2:(2:Int)<=(c:Int):=by omega
 have ib2:2<=c:=by omega
 have id2:¬ c=2:=by omega
 have ia4:(4:Int)<=(c:Int):=by omega
 have ib4:4<=c:=by omega
 have id4:¬ c=4:=by omega
 have ia8:(8:Int)<=(c:Int):=by omega
 have ib8:8<=c:=by omega
 have id8:¬ c=8:=by omega
 have ia12:(12:Int)<=(c:Int):=by omega
 have ib12:12<=c:=by omega
 have id12:¬ c=12:=by omega
 obtain⟨bl,hbl⟩:∃ n,bigL (sub bs 8 12)=n:=⟨_,rfl⟩
 rw[hbl] at CB8
 obtain⟨CUR,HC⟩:∃ CUR:List Value,Hid (CUR=[.int .u8 (k:Int),.bool b2,.bool b3,.slice none 0 0,.int .u16 (n16 (w16 (bs.take 2))),.int .u16 (n16 (w16 (sub bs 2 4))),.int .u32 (n32 (w32 (sub bs 4 8))),.int .u32 0,.int .u8 0,.int .u8 0,.int .u32 0,.int .u16 0,.int .u32 0,.slice DA dn dc]):=⟨_,Lib.hid rfl⟩
 have CL:=Lib.hid (show CUR.length=14 by rw[HC.out];rfl)
 have CO:=Lib.hid (show ∀ v∈CUR,v.oneCell'=true by rw[HC.out];simp[Value.oneCell'])
 have HP:Hid (P={ h:={ k:=BitVec.ofNat 8 k,la:=b2,su:=b3,id:=w16 (bs.take 2),tg:=w16 (sub bs 2 4),of:=w32 (sub bs 4 8) },da:=data }/\ok=(z12&&decide (bl=dn))):=Lib.hid (by
  have h:parse k fl bs data=({ h:={ k:=BitVec.ofNat 8 k,la:=b2,su:=b3,id:=w16 (bs.take 2),tg:=w16 (sub bs 2 4),of:=w32 (sub bs 4 8) },da:=data },(z12&&decide (bl=dn))):=by
   rw[<-hb2,<-hb3,<-hz12,<-hbl,sub_full bs 12 16 hn.symm,hd];unfold parse;rcases hk with rfl|rfl <;> rfl
  rw[h] at hp
  cases hp
  exact⟨rfl,rfl⟩)
 have HPC:Hid (∀ EA en ec,CUR.set 3 (.slice EA en ec)=pc P.h EA en ec DA dn dc):=Lib.hid (fun EA en ec=>by
  rw[HP.out.1,HC.out]
  show _=_
  unfold pc;rw[n8k (by omega)]
  rfl)
 have HDA:Hid (P.da=data):=Lib.hid (by rw[HP.out.1])
 have q0:((k:Int)==0)=false:=by rw[Bool.eq_iff_iff];simp;omega
 have q1:((k:Int)==1)=false:=by rw[Bool.eq_iff_iff];simp;omega
 have q2:((k:Int)==2)=false:=by rw[Bool.eq_iff_iff];simp;omega
 have q3:((k:Int)==3)=false:=by rw[Bool.eq_iff_iff];simp;omega
 have q4:((k:Int)==4)=false:=by rw[Bool.eq_iff_iff];simp;omega
 have q5:((k:Int)==5)=false:=by rw[Bool.eq_iff_iff];simp;omega
 have q9:((k:Int)==9)=false:=by rw[Bool.eq_iff_iff];simp;omega
 have HN:=Lib.hid hn
 have HD:=Lib.hid hd
 clear hS hn hc hfl hp hk hd hb2 hb3
 go_enter Tryz.func185,Tryz.ntmps185
 go_upto_region 15 with (first|((with_reducible refine Se.iL 8 ?_);(refine Se.Al hs rfl (HZ.out) ?_;clear hs;rintro w g8-hs))|((with_reducible refine Se.iL 22 ?_);(refine Se.Bd rfl rfl (rfl) ?_))|((with_reducible refine Se.iL 10 ?_);(refine Se.Al hs rfl (HZ.out) ?_;clear hs;rintro w g10-hs))|((with_reducible refine Se.iN ?_);(refine Se.Sow 0 hs rfl rfl rfl rfl (by simp[Value.oneCell']) (by kernel_rfl) (rfl) ?_;clear hs;intro w hs;try simp only[pS] at hs)))
 refine Ch.region' 18 (fun _=>True) (fun|2=>true|6=>true|10=>true|13=>true|15=>true|17=>true|_=>false) (by kernel_rfl) (by decide +kernel) (trivial) ?_;replace hs:=hs.drew;generalize w.drew=w at hs ⊢;change Ch.CW _ _ _ _ _ [0,1,2,3,4,5,6,7,8,9,10,11,12,13,14,15,16,17] _ _
 iterate 2 (refine Ch.pA ?_;(try simp only[pU]))
 refine Ch.cA (f:=183) (args:=#[.slice (some ⟨g,off,none⟩) 2 c]) (CB0.out [_,_] _ hs) ?_;clear hs;rintro e w⟨rfl,hs⟩;refine⟨_,rfl,trivial,?_⟩;(try simp only[pU])
 iterate 3 (refine Ch.pA ?_;(try simp only[pU]))
 refine Ch.cA (f:=183) (args:=#[.slice (some ⟨g,off+2,none⟩) 2 (c-2)]) (CB2.out [_,_] _ hs) ?_;clear hs;rintro e w⟨rfl,hs⟩;refine⟨_,rfl,trivial,?_⟩;(try simp only[pU])
 iterate 3 (refine Ch.pA ?_;(try simp only[pU]))
 refine Ch.cA (f:=183) (args:=#[.slice (some ⟨g,off+4,none⟩) 4 (c-4)]) (CB4.out [_,_] _ hs) ?_;clear hs;rintro e w⟨rfl,hs⟩;refine⟨_,rfl,trivial,?_⟩;(try simp only[pU])
 iterate 1 (refine Ch.pA ?_;(try simp only[pU]))
 iterate 1 (refine Ch.pA ?_;(try simp only[pU]))
 refine Ch.nA (h:=Se.so 0 (v:=.int .u16 (n16 (w16 (bs.take 2)))) hs rfl rfl rfl rfl rfl (by kernel_rfl) (by simp[pc]) ?_);clear hs;intro w hs;simp only[pS] at hs;refine⟨trivial,?_⟩;(try simp only[pU])
 iterate 1 (refine Ch.pA ?_;(try simp only[pU]))
 refine Ch.nA (h:=Se.so 0 (v:=.int .u16 (n16 (w16 (sub bs 2 4)))) hs rfl rfl rfl rfl rfl (by kernel_rfl) (by simp[pc]) ?_);clear hs;intro w hs;simp only[pS] at hs;refine⟨trivial,?_⟩;(try simp only[pU])
 iterate 1 (refine Ch.pA ?_;(try simp only[pU]))
 refine Ch.nA (h:=Se.so 0 (v:=.int .u32 (n32 (w32 (sub bs 4 8)))) hs rfl rfl rfl rfl rfl (by kernel_rfl) (by simp[pc]) ?_);clear hs;intro w hs;simp only[pS] at hs;refine⟨trivial,?_⟩;(try simp only[pU]);refine Ch.done ?_
 try simp only[List.drop_succ_cons,List.drop_zero]
 replace hs:St w0 X ([.blk g10 65 CUR,.blk g8 65 (pc {} none 0 0 none 0 0)]++L) w:=by rw[HC.out];exact hs
 go_upto_region 19 with (fail)
 refine Ch.region' 14 (fun wx=>Rd wx (some ⟨g,off,none⟩) (bs.map v8)/\Blk wx g10 CUR 65) (fun|3=>true|7=>true|12=>true|_=>false) (by kernel_rfl) (by decide +kernel) (⟨HS.out _ (fun a ha=>hs.drew.hold a (by simp[ha])),hs.drew.hold (.blk g10 65 CUR) (by simp)⟩) ?_;replace hs:=hs.drew;generalize w.drew=w at hs ⊢;change Ch.CW _ _ _ _ _ [0,1,2,3,4,5,6,7,8,9,10,11,12,13] _ _
 iterate 3 (refine Gd.look (by rfl) ?_;(first|refine Gd.l0 (v:=.agg CUR.toArray) (hv:=fun wx hS=>Se.xla (by rfl) (by rfl) (Li.Rd.of_blk hS.2) (by rw[CL.out] <;> kernel_rfl) (by kernel_rfl)) (h:=?_)|refine Gd.l1 (v:=.agg CUR.toArray) (hv:=fun hb0 wx hS=>Se.xla (by rfl) (by rfl) (Li.Rd.of_blk hS.2) (by rw[CL.out] <;> kernel_rfl) (by kernel_rfl)) (h:=?_)|((first|refine Gd.p0 ?_|refine Gd.p1 ?_|refine Gd.b0 ?_|refine Gd.u0 ?_|refine Gd.b1 ?_|refine Gd.u1 ?_);intro _ _)|refine Gd.a0 ?_|refine Gd.a1 ?_);(try simp only[pU]))
 refine Ch.cA (f:=186) (args:=#[.slice (some ⟨g,off+12,none⟩) 4 (c-12)]) (CZ12.out [_,_] _ hs) ?_;clear hs;rintro e w⟨rfl,hs⟩;refine⟨_,rfl,⟨HS.out _ (fun a ha=>hs.hold a (by simp[ha])),hs.hold (.blk g10 65 CUR) (by simp)⟩,?_⟩;(try simp only[pU])
 iterate 3 (refine Gd.look (by rfl) ?_;(first|((first|refine Gd.p0 ?_|refine Gd.p1 ?_|refine Gd.b0 ?_|refine Gd.u0 ?_|refine Gd.b1 ?_|refine Gd.u1 ?_);intro _ _)|refine Gd.a0 ?_|refine Gd.a1 ?_);(try simp only[pU]))
 refine Gd.gn (v:=.int .i64 (bl:Int)) (by rfl) (by rfl) (by first|exact Gd.want_t rfl rfl rfl|exact Gd.want_f rfl rfl rfl|exact Gd.want_mt rfl rfl rfl|exact Gd.want_mf rfl rfl rfl) hs (fun hb=>?_) (fun w hT=>?_)
 ·(try simp only[Bool.and_eq_true] at hb)
  refine Se.gcall (f:=183) (args:=#[.slice (some ⟨g,off+8,none⟩) 4 (c-8)]) ?_ ?_
  ·go_simp
  refine Calls.mono (CB8.out [_,_] _ hs) ?_;clear hs;rintro e w⟨rfl,hs⟩;exact⟨_,rfl,rfl,hs⟩
 clear hs
 have hs:=hT
 clear hT;refine⟨⟨HS.out _ (fun a ha=>hs.hold a (by simp[ha])),hs.hold (.blk g10 65 CUR) (by simp)⟩,?_⟩;(try simp only[pU])
 iterate 4 (refine Gd.look (by rfl) ?_;(first|((first|refine Gd.p0 ?_|refine Gd.p1 ?_|refine Gd.b0 ?_|refine Gd.u0 ?_|refine Gd.b1 ?_|refine Gd.u1 ?_);intro _ _)|refine Gd.a0 ?_|refine Gd.a1 ?_);(try simp only[pU]))
 refine Ch.nA (h:=Se.sow 1 (vs:=CUR) hs rfl rfl rfl rfl CO.out (by rw[CL.out] <;> kernel_rfl) (by rw[CL.out];rfl) ?_);clear hs;intro w hs;simp only[List.cons_append,List.nil_append,List.set_cons_zero,List.set_cons_succ] at hs;refine⟨⟨HS.out _ (fun a ha=>hs.hold a (by simp[ha])),hs.hold (.blk g10 65 CUR) (by simp)⟩,?_⟩;(try simp only[pU])
 iterate 1 (refine Gd.look (by rfl) ?_;(first|((first|refine Gd.p0 ?_|refine Gd.p1 ?_|refine Gd.b0 ?_|refine Gd.u0 ?_|refine Gd.b1 ?_|refine Gd.u1 ?_);intro _ _)|refine Gd.a0 ?_|refine Gd.a1 ?_);(try simp only[pU]))
 refine Ch.done ?_
 try simp only[List.drop_succ_cons,List.drop_zero]
 go_wp2_with fail
 refine Se.ret hs [.agg CUR.toArray,.bool _] rfl ⟨Se.resRow rfl (Reads.blk 1 rfl) (by kernel_rfl) (by rw[CL.out] <;> kernel_rfl),rfl,trivial⟩ (by simp) rfl ?_;refine⟨none,0,0,?_,by rw[HP.out.1];rfl,Or.inl (by rw[HP.out.1]),HDA.out,hs.drop.drop⟩;rw[<-HPC.out none 0 0,HP.out.2,show CUR.set 3 (.slice none 0 0)=CUR by rw[HC.out];rfl]
 have eb:((bl:Int)==(dn:Int))=decide (bl=dn):=eqI bl dn
 rw[<-eb];unfold Hid at *
 subst_vars
 rfl
theorem parse_st(hs:St w0 X L w){k:Nat}(hk:hdr k≠0)(fl:Nat)(hfl:fl<256)(bs data:List (BitVec 8)){g off c dn dc n:Nat}{DA:Option Addr}(hn:bs.length=n)(hn8:n=hdr k-8)(hc:n<=c)(hS:Reads L (some ⟨g,off,none⟩) (bs.map v8))(hd:dn=data.length){P:PDU}{ok:Bool}(hp:parse k fl bs data=(P,ok)) :
  Calls Tryz.prog 185 #[iv k,iv fl,.slice (some ⟨g,off,none⟩) n c,.slice DA dn dc] w fun e w'=>∃ EA en ec,e=.returned (.tuple #[.agg (pc P.h EA en ec DA dn dc).toArray,.bool ok])/\en=P.en.length/\(P.en=[]\/EA=some ⟨g,off,none⟩/\P.en=bs)/\P.da=data/\St w0 X L w':=by
 rcases hdr_cases hk with h|h|h|h|h|h|h|h|h
 ·subst h hn8;exact parse01 hs (.inl rfl) fl hfl bs data hn hc hS hd hp
 ·subst h hn8;exact parse01 hs (.inr rfl) fl hfl bs data hn hc hS hd hp
 ·subst h hn8;exact parse23 hs (.inl rfl) fl hfl bs data hn hc hS hd hp
 ·subst h hn8;exact parse23 hs (.inr rfl) fl hfl bs data hn hc hS hd hp
 ·exact parse45 hs (.inl h) fl hfl bs data hn hc hS hd hp
 ·exact parse45 hs (.inr h) fl hfl bs data hn hc hS hd hp
 ·subst h hn8;exact parse67 hs (.inl rfl) fl hfl bs data hn hc hS hd hp
 ·subst h hn8;exact parse67 hs (.inr rfl) fl hfl bs data hn hc hS hd hp
 ·subst h hn8;exact parse9 hs rfl fl hfl bs data hn hc hS hd hp
end Pd
end Go.Proofs.YtjnllcnknjlmmaaGreat
namespace Go.Proofs.YtjnllcnknjlmmaaGreat
open Go Go.RowKit
namespace Pd
open Se (At)
open Li (v8 Rd)
variable {w0 w:World} {X:List Nat} {L:List At}
attribute [local irreducible] Calls
theorem xconv{P:Program}{w:World}{o:Oper}{ρ:Operand->Value}{src dst e:TypeId}{x:Operand}(ho:o.op=.convert src dst x){A:Option Addr}{n c:Nat}(hx:ρ x=.slice A n c){bs:List (BitVec 8)}(hr:Rd w A (bs.map v8))(hn:n=bs.length)(h1:P.underlying src=some (.slice e))(h2:P.underlying e=some (.int .u8))(h3:P.underlying dst=some .string):(execOp ρ o).run P w=.ok (.value (.string (strB bs))) w:=by
 unfold execOp;simp only[ho,hx,Sem.run_bind,run_str w h1 h2 h3 hn hr,Result.andThen_ok,Sem.run_pure]
end Pd
end Go.Proofs.YtjnllcnknjlmmaaGreat
