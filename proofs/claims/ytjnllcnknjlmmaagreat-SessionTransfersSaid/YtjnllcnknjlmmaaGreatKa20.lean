/- Layer 41. -/
import Derived.Scope
import Derived.WalkMore
import Derived.Test.YtjnllcnknjlmmaaGreatKa19
set_option linter.unusedSimpArgs false
set_option linter.unusedVariables false
set_option maxRecDepth 100000
set_option maxHeartbeats 4000000
namespace Go.Proofs.YtjnllcnknjlmmaaGreat
open Go Go.RowKit
namespace Sn
open Pd (PDU pc iv)
open Sr (Rc pR pO nextE addE)
open Se (St At Reads Cell mp kmp getK)
open Li (v8 Blk)
open Bv (n8)
variable {w0 w:World} {X:List Nat} {L:List At}
attribute [local irreducible] Calls
def FeedR(w0:World)(X:List Nat)(g:Nat)(s':Ss)(l:List Rq)(gr:Nat)(L:List At)(RB:Option Addr)(rc:Nat)(w:World):Prop :=
 ∃ rq rl f',rqo rl=l/\(∀ x∈rl,x.1.en.length=64)/\OkP s' f'.k/\f'.k.h.gr=gr/\St w0 X (.own 67 rq RB l.length rc (rqs rl)::(qAs rl++FF g s' f' L)) w
theorem feedR_nil{g:Nat}{s:Ss}{f:Pf}(hs:St w0 X (FF g s f L) w)(ok:OkP s f.k):FeedR w0 X g s [] f.k.h.gr L none 0 w:=⟨none,[],f,rfl,by simp,ok,rfl,hs.nil_own 67 none⟩
theorem key_get(st:Nat)(k:BitVec 8):getK hdl ((st:Int),n8 k)=if st=1/\k=0#8 then some (fnv 118) else if st=2/\k=4#8 then some (fnv 119) else if st=2/\k=6#8 then some (fnv 120) else if st=2/\k=2#8 then some (fnv 121) else none:=by
 have e:∀ (a b:Nat),b<256->((((a:Int),(b:Int))==((st:Int),n8 k))=decide (st=a/\k=BitVec.ofNat 8 b)):=by
  intro a b hb;rw[Bool.eq_iff_iff,beq_iff_eq,decide_eq_true_eq,Prod.mk.injEq]
  constructor
  ·rintro⟨h1,h2⟩
   exact⟨by omega,(n8_lit k b hb).2 h2.symm⟩
  ·rintro⟨h1,h2⟩
   exact⟨by omega,((n8_lit k b hb).1 h2).symm⟩
 have e1:=e 1 0 (by omega)
 have e2:=e 2 4 (by omega)
 have e3:=e 2 6 (by omega)
 have e4:=e 2 2 (by omega)
 simp only[Int.ofNat_one,Int.natCast_zero] at e1;unfold getK hdl;simp only[List.find?_cons];rw[show(((1:Int),(0:Int))==((st:Int),n8 k))=decide (st=1/\k=BitVec.ofNat 8 0) from e1,show(((2:Int),(4:Int))==((st:Int),n8 k))=decide (st=2/\k=BitVec.ofNat 8 4) from e2,show(((2:Int),(6:Int))==((st:Int),n8 k))=decide (st=2/\k=BitVec.ofNat 8 6) from e3,show(((2:Int),(2:Int))==((st:Int),n8 k))=decide (st=2/\k=BitVec.ofNat 8 2) from e4]
 by_cases a1:st=1/\k=0#8
 ·rw[decide_eq_true a1,if_pos a1];rfl
 rw[decide_eq_false a1,if_neg a1]
 by_cases a2:st=2/\k=4#8
 ·rw[decide_eq_true a2,if_pos a2];rfl
 rw[decide_eq_false a2,if_neg a2]
 by_cases a3:st=2/\k=6#8
 ·rw[decide_eq_true a3,if_pos a3];rfl
 rw[decide_eq_false a3,if_neg a3]
 by_cases a4:st=2/\k=2#8
 ·rw[decide_eq_true a4,if_pos a4];rfl
 rw[decide_eq_false a4,if_neg a4]
 rfl
section
variable {P:Program} {o:Oper} {a:Act} {G:Value->World->Prop}
theorem fn_z:(Tryz.prog.info? 166).bind (·.zero)=some .nilFunc:=by kernel_rfl
theorem klq(hs:St w0 X L w){ty:TypeId}{m x:Operand}(ho:o.op=.lookup ty m x true){g:Nat}(hm:a.eval m=.map (some g)){k:Int × Int}(hx:a.eval x=.agg #[.int .i64 k.1,.int .u8 k.2]){l:List ((Int × Int) × Value)}(hk:kmp g l∈L)(hp:l.Perm hdl){et:TypeId}(ht:Tryz.prog.underlying ty=some (.map Se.kkT et)){zv:Value}(hz:(Tryz.prog.info? et).bind (·.zero)=some zv){v:Value}{b:Bool}(hv:(getK hdl k).getD zv=v)(hb:(getK hdl k).isSome=b)
  (h:G (.tuple #[v,.bool b]) w):Hv.Gives Tryz.prog o a w G:=Se.klk hs ho hm hx hk ht hz (by rw[getK_perm hp hdl_nodup,hv,hb];exact h)
end
theorem feed_in{g:Nat}{s:Ss}{f:Pf}(hs:St w0 X (pR f.k.h.gr s.r f.rB f.rc::pO f.rr f.rB f.rc s.r::.blk g 112 (scl { s with rd:=[] } { f.k.h with RB:=none,rc:=0 })::qU f.k.ro s f.k.h::mp f.k.h.gt .u16 (tPs f.k.tl)::mp f.k.h.gp .u16 (rPs s.rp)::.own 67 f.k.rq f.k.h.RB s.rd.length f.k.h.rc (rqs f.k.rl)::(tAs f.k.tl++(qAs f.k.rl++L))) w)(ok:OkP s f.k) :
  ∃ f2:Pf,OkP { s with rd:=[] } f2.k/\f2.k.h.gr=f.k.h.gr/\St w0 X (FF g { s with rd:=[] } f2 L) w:=by
 refine⟨⟨⟨{ f.k.h with RB:=none,rc:=0 },f.k.ro,none,f.k.tl,[]⟩,f.rB,f.rc,f.rr⟩,⟨ok.tx,rfl,ok.en,by simp⟩,rfl,?_⟩
 have h1:=hs.sub (L':=pR f.k.h.gr s.r f.rB f.rc::pO f.rr f.rB f.rc s.r::.blk g 112 (scl { s with rd:=[] } { f.k.h with RB:=none,rc:=0 })::qU f.k.ro s f.k.h::mp f.k.h.gt .u16 (tPs f.k.tl)::mp f.k.h.gp .u16 (rPs s.rp)::(tAs f.k.tl++L)) (by
  refine List.Sublist.cons_cons _ (List.Sublist.cons_cons _ (List.Sublist.cons_cons _ (List.Sublist.cons_cons _ (List.Sublist.cons_cons _ (List.Sublist.cons_cons _ (List.Sublist.cons _ (List.Sublist.append_left (List.sublist_append_right _ _) _))))))))
 exact(h1.nil_own 67 none).perm (List.perm_append_comm_assoc [_] [_,_,_,_,_,_] _)
theorem feed_out{g:Nat}{s:Ss}{f:Pf}(hs:St w0 X (pR f.k.h.gr s.r f.rB f.rc::pO f.rr f.rB f.rc s.r::.blk g 112 (scl { s with rd:=[] } { f.k.h with RB:=none,rc:=0 })::qU f.k.ro s f.k.h::mp f.k.h.gt .u16 (tPs f.k.tl)::mp f.k.h.gp .u16 (rPs s.rp)::.own 67 f.k.rq f.k.h.RB s.rd.length f.k.h.rc (rqs f.k.rl)::(tAs f.k.tl++(qAs f.k.rl++L))) w)(ok:OkP s f.k) :
  FeedR w0 X g { s with rd:=[] } s.rd f.k.h.gr L f.k.h.RB f.k.h.rc w:=by
 refine⟨f.k.rq,f.k.rl,⟨⟨{ f.k.h with RB:=none,rc:=0 },f.k.ro,none,f.k.tl,[]⟩,f.rB,f.rc,f.rr⟩,ok.rd.symm,ok.re,⟨ok.tx,rfl,ok.en,by simp⟩,rfl,?_⟩;refine(hs.nil_own 67 none).perm ?_;refine List.Perm.trans (l₂:=.own 67 f.k.rq f.k.h.RB s.rd.length f.k.h.rc (rqs f.k.rl)::([.own 67 none none 0 0 [],pR f.k.h.gr s.r f.rB f.rc,pO f.rr f.rB f.rc s.r,.blk g 112 (scl { s with rd:=[] } { f.k.h with RB:=none,rc:=0 }),qU f.k.ro s f.k.h,mp f.k.h.gt .u16 (tPs f.k.tl),mp f.k.h.gp .u16 (rPs s.rp)]++(tAs f.k.tl++(qAs f.k.rl++L)))) (List.perm_append_comm_assoc [_,_,_,_,_,_,_] [_] _) ?_;refine List.Perm.cons _ ?_;refine List.Perm.trans (l₂:=([pR f.k.h.gr s.r f.rB f.rc,pO f.rr f.rB f.rc s.r,.blk g 112 (scl { s with rd:=[] } { f.k.h with RB:=none,rc:=0 }),qU f.k.ro s f.k.h,mp f.k.h.gt .u16 (tPs f.k.tl),mp f.k.h.gp .u16 (rPs s.rp),.own 67 none none 0 0 []])++(tAs f.k.tl++(qAs f.k.rl++L))) (List.perm_append_comm_assoc [_] [_,_,_,_,_,_] _) ?_;refine(List.Perm.append_left _ (List.perm_append_comm_assoc (tAs f.k.tl) (qAs f.k.rl) L)).trans ?_;exact List.perm_append_comm_assoc [_,_,_,_,_,_,_] (qAs f.k.rl) _
theorem pdu_z2:(Tryz.prog.info? 65).bind (fun i=>i.zero.map (·.cells.toList))=some (pc {} none 0 0 none 0 0):=by kernel_rfl
theorem pc_one2(h:Pd.Hd)(EA:Option Addr)(en ec:Nat)(DA:Option Addr)(dn dc:Nat):∀ v∈pc h EA en ec DA dn dc,v.oneCell'=true:=by simp[pc,Value.oneCell']
theorem round_end{t s1:Ss}{rn:Rc}{m':Nat}(h:Step1 { t with r:=rn } s1)(he:rn.b.length<=t.r.b.length/\rn.mo=t.r.mo/\rn.nb+rn.b.length<=t.r.nb+t.r.b.length/\rn.np+rn.b.length<=t.r.np+t.r.b.length)(hp:t.r.nb+t.r.b.length<=70368744177664/\t.r.np+t.r.b.length<=70368744177664/\t.rd.length+t.r.b.length<=8388608/\(t.st=3\/t.out.length+2097152*(t.r.b.length+1)<=70368744177664))(h3:s1.st=3)(hrd:s1.rd=t.rd) :
  Hid (s1.st=3\/s1.r.b.length+1<=m')/\Hid (Inv s1)/\Hid (s1.r.nb+s1.r.b.length<=70368744177664/\s1.r.np+s1.r.b.length<=70368744177664/\s1.rd.length+s1.r.b.length<=8388608/\(s1.st=3\/s1.out.length+2097152*(s1.r.b.length+1)<=70368744177664)):=by
 refine⟨Lib.hid (.inl h3),Lib.hid h.i,Lib.hid ⟨?_,?_,?_,.inl h3⟩⟩
 ·rw[h.nb,h.b];exact Nat.le_trans he.2.2.1 hp.1
 ·rw[h.np,h.b];exact Nat.le_trans he.2.2.2 hp.2.1
 ·rw[hrd,h.b];exact Nat.le_trans (Nat.add_le_add_left he.1 _) hp.2.2.1
theorem ar3{o1 o b' b K M:Nat}(h1:o1<=o+K)(h2:o+K*(b+1)<=M)(h3:b'+1<=b):o1+K*(b'+1)<=M:=by
 have h4:K*(b'+1)<=K*b:=Nat.mul_le_mul_left K h3
 have h5:K*(b+1)=K*b+K:=Nat.mul_succ K b
 omega
theorem round_ok{t s1:Ss}{rn:Rc}{p:PDU}{m m':Nat}(h:Step1 { t with r:=rn } s1)(hk:NextOk t.r rn p)(h1:t.r.nb+t.r.b.length<=70368744177664)(h2:t.r.np+t.r.b.length<=70368744177664)(h3:t.rd.length+t.r.b.length<=8388608)(h4:t.out.length+2097152*(t.r.b.length+1)<=70368744177664)(h5:t.r.b.length+1<=m)(h6:m=m'+1) :
  Hid (s1.st=3\/s1.r.b.length+1<=m')/\Hid (Inv s1)/\Hid (s1.r.nb+s1.r.b.length<=70368744177664/\s1.r.np+s1.r.b.length<=70368744177664/\s1.rd.length+s1.r.b.length<=8388608/\(s1.st=3\/s1.out.length+2097152*(s1.r.b.length+1)<=70368744177664)):=by
 have a1:=hk.b
 have a2:=hk.nb
 have a3:=hk.np
 refine⟨Lib.hid (.inr ?_),Lib.hid h.i,Lib.hid ⟨?_,?_,?_,.inr ?_⟩⟩
 ·rw[h.b]
  show rn.b.length+1<=m'
  clear h hk h4;omega
 ·rw[h.nb,h.b];exact Nat.le_trans (Nat.le_of_eq a2) h1
 ·rw[h.np,h.b]
  show rn.np+rn.b.length<=_
  clear h hk h4;omega
 ·have b1:s1.rd.length<=t.rd.length+1:=h.rd
  have b2:s1.r.b.length=rn.b.length:=by rw[h.b]
  clear h hk h4;omega
 ·have b2:s1.r.b.length=rn.b.length:=by rw[h.b]
  rw[b2];exact ar3 h.out h4 a1
theorem feed_st{g:Nat}{s:Ss}{f:Pf}(hs:St w0 X (FF g s f L) w)(ok:OkP s f.k)(hi:Inv s)(x:Bs){A:Option Addr}{n c:Nat}(hn:n=x.length)(hx:Reads L A (x.map v8))(hnl:n<=70368744177664)
  (h1:s.r.nb+s.r.b.length+n<=70368744177664) (h2:s.r.np+s.r.b.length+n<=70368744177664) (h3:s.out.length+2097152*(s.r.b.length+n+1)<=70368744177664) {s':Ss} {l:List Rq} {e:Nat} (hr:feedE s x=(s',l,e)) :
  Calls Tryz.prog 37 #[.pointer (some ⟨g,0,none⟩),.slice A n c] w fun e' w'=>∃ RB rc,e'=.returned (.tuple #[.slice RB l.length rc,iv e])/\FeedR w0 X g s' l f.k.h.gr L RB rc w':=by
 obtain⟨r1,e1,ha⟩:∃ r1 e1,addE s.r x=(r1,e1):=⟨_,_,rfl⟩
 obtain⟨st,hst⟩:∃ st,st=s.st:=⟨_,rfl⟩
 obtain⟨gr,hgr⟩:∃ gr,gr=f.k.h.gr:=⟨_,rfl⟩
 have S8:=Lib.hid (show(scl s f.k.h)[8]? = some (iv st) by rw[hst];exact(scl_at s f.k.h).2.2.2.1)
 have S10:=Lib.hid (show(scl s f.k.h)[10]? = some (.pointer (some ⟨gr,0,none⟩)) by rw[hgr];exact(scl_at s f.k.h).2.2.2.2.1)
 have CNo:Hid (∀ w,St w0 X (FF g s f L) w->Calls Tryz.prog 87 #[.pointer (some ⟨g,0,none⟩)] w fun e w'=>e=.returned (.bool false)/\St w0 X (FF g s f L) w'):=Lib.hid (fun w hs=>by
  refine(none_st (St.swapA [_,_] [_] hs)).mono ?_;rintro e w' ⟨h1,h2⟩;exact⟨h1,St.swapA [_] [_,_] h2⟩)
 have CAd:Hid (∀ w,St w0 X (FF g s f L) w->Calls Tryz.prog 60 #[.pointer (some ⟨gr,0,none⟩),.slice A n c] w fun e' w'=>∃ f1:Pf,e'=.returned (iv e1)/\f1.k=f.k/\St w0 X (FF g { s with r:=r1 } f1 L) w'):=Lib.hid (fun w hs=>by
  rw[hgr];refine(Sr.add_st hs hi.mo x hn (Reads.mono hx (by intro a ha;simp[SF,ha])) hi.b hnl ha).mono ?_;rintro e' w' ⟨r',B',c',h1,h2⟩;exact⟨⟨f.k,B',c',r'⟩,h1,rfl,h2⟩)
 have HOK:=Lib.hid ok
 have HI:=Lib.hid hi
 have HN:=Lib.hid hn
 have HGR:=Lib.hid hgr
 have HB:=Lib.hid (And.intro h1 (And.intro h2 h3))
 have HA:=Lib.hid ha
 have HST:=Lib.hid hst
 have HR:Hid ((if st=3 then (s,[],8) else if e1≠0 then (s,[],e1) else ({ feedN (r1.b.length+2) { s with r:=r1,rd:=[] } with rd:=[] },(feedN (r1.b.length+2) { s with r:=r1,rd:=[] }).rd,0))=(s',l,e)):=Lib.hid (by
  rw[<-hr];unfold feedE;rw[ha,hst])
 rw[<-hgr];clear hr ha hst hgr h1 h2 h3 hi ok hn hx
 by_cases h3:st=3
 ·have h3i:(st:Int)=3:=by omega
  have HR2:=HR.out
  rw[if_pos h3] at HR2
  cases HR2
  clear HR h3 CAd
  go_enter Tryz.func37,Tryz.ntmps37
  go_wp2_with fail
  refine wp_scope_straight ?_
  go_wp2_with (first|((with_reducible refine Se.iL 19 ?_);(refine Se.Ld hs rfl rfl (Cell.blk 2 rfl S8.out) ?_))|(go_at_call 87;refine Calls.mono (CNo.out _ hs) ?_;clear hs;rintro e w ⟨rfl,hs⟩))
  simp only[Exit.noGoto_ret];go_ret2;exact⟨none,0,rfl,by rw[HGR.out];exact feedR_nil hs HOK.out⟩
 have h3b:((st:Int)==3)=false:=by simp;omega
 have HR2:=HR.out
 rw[if_neg h3] at HR2;clear HR
 by_cases h0:e1=0
 ·have h0i:(e1:Int)=0:=by omega
  rw[if_neg (by simpa using h0)] at HR2
  have HR:=Lib.hid HR2
  clear HR2
  have H0:=Lib.hid h0
  clear h0 h3
  obtain⟨N,hN⟩:∃ N,N=r1.b.length+2:=⟨_,rfl⟩
  obtain⟨T,hT⟩:∃ T,T=feedN N { s with r:=r1,rd:=[] }:=⟨_,rfl⟩
  rw[<-hN,<-hT] at HR
  have HR2:=HR.out
  cases HR2
  clear HR
  have HT:=Lib.hid hT.symm
  have HNN:=Lib.hid hN
  have AB:=Lib.hid (add_b HA.out)
  clear hT hN
  go_enter Tryz.func37,Tryz.ntmps37
  go_wp2_with fail
  refine wp_scope_straight ?_
  go_upto_region 8 with (first|((with_reducible refine Se.iL 19 ?_);(refine Se.Ld hs rfl rfl (Cell.blk 2 rfl S8.out) ?_))|((with_reducible refine Se.iL 24 ?_);(refine Se.Ld hs rfl rfl (Cell.blk 2 rfl S10.out) ?_))|(go_at_call 87;refine Calls.mono (CNo.out _ hs) ?_;clear hs;rintro e w ⟨rfl,hs⟩)|(go_at_call 60;refine Calls.mono (CAd.out _ hs) ?_;clear hs;rintro e w ⟨f1,rfl,hf1,hs⟩))
  clear CNo CAd S8 S10
  have OK1:=Lib.hid (show OkP { s with r:=r1 } f1.k by rw[hf1];exact⟨HOK.out.tx,HOK.out.rd,HOK.out.en,HOK.out.re⟩)
  have HG1:=Lib.hid (show f1.k.h.gr=gr by rw[hf1];exact HGR.out.symm)
  have EL:=Lib.hid (show(scl { s with r:=r1 } f1.k.h).length=18 from rfl)
  have ES:=Lib.hid (show(scl { s with r:=r1 } f1.k.h).set 17 (.slice none 0 0)=scl { s with r:=r1,rd:=[] } { f1.k.h with RB:=none,rc:=0 } from rfl)
  simp only[FF,SF] at hs
  go_wp2_with (first|((with_reducible refine Se.iN ?_);(refine Se.Soq 2 hs rfl rfl rfl (by rw[EL.out];omega) ES.out ?_;clear hs;intro w hs;try simp only[pS] at hs)))
  have hs:=feed_in hs OK1.out
  obtain⟨f2,OK2a,HG2a,hs⟩:=hs
  have OK2:=Lib.hid OK2a
  have HG2:=Lib.hid (HG2a.trans HG1.out)
  clear OK2a HG2a;clear OK1 HG1 EL ES
  go_step3
  go_wp2_with fail
  have HI1:=Lib.hid (show Inv { s with r:=r1,rd:=[] } from⟨HI.out.c,by show r1.mo≠0;rw[AB.out.2.2.1];exact HI.out.mo,(AB.out.1 H0.out).2,HI.out.t,HI.out.n,HI.out.nd⟩)
  have HP1:=Lib.hid (show r1.nb+r1.b.length<=70368744177664/\r1.np+r1.b.length<=70368744177664/\0+r1.b.length<=8388608/\s.out.length+2097152*(r1.b.length+1)<=70368744177664 by
   have a1:=(AB.out.1 H0.out).1
   have a2:=(AB.out.1 H0.out).2
   have a3:=AB.out.2.2.2.1
   have a4:=AB.out.2.2.2.2
   have a5:r1.b.length=s.r.b.length+n:=by rw[a1,List.length_append,HN.out]
   obtain⟨b1,b2,b3⟩:=HB.out
   rw[a3,a4,a5];refine⟨by omega,by omega,by omega,b3⟩)
  have HL:=Lib.hid (show({ s with r:=r1,rd:=[] }:Ss).st=3\/r1.b.length+1<=N by right;rw[HNN.out];omega)
  skip
  go_loopg [8] (0+N) (fun gh s8 wr=>∃ (m:Nat) (t:Ss) (f':Pf),gh=0+m/\Hid (feedN m t=T)/\Hid (t.st=3\/t.r.b.length+1<=m)/\Hid (Inv t)/\Hid (OkP t f'.k)/\Hid (f'.k.h.gr=gr)/\Hid (t.r.nb+t.r.b.length<=70368744177664/\t.r.np+t.r.b.length<=70368744177664/\t.rd.length+t.r.b.length<=8388608/\(t.st=3\/t.out.length+2097152*(t.r.b.length+1)<=70368744177664))/\St w0 X (FF g t f' L) wr)
  case atStart=>exact⟨N,_,f2,rfl,HT,HL,HI1,OK2,HG2,Lib.hid ⟨HP1.out.1,HP1.out.2.1,HP1.out.2.2.1,.inr HP1.out.2.2.2⟩,hs⟩
  case round =>
   clear hs HT HL HI1 OK2 HG2 HP1 HI HB HA HNN AB HN HOK
   rename World=>w
   obtain⟨m,t,f',rfl,HT,HL,HI,HOK,HG,HP,hs⟩:=hrel
   obtain⟨st',hst'⟩:∃ q,q=t.st:=⟨_,rfl⟩
   have S8:=Lib.hid (show(scl t f'.k.h)[8]? = some (iv st') by rw[hst'];exact(scl_at t f'.k.h).2.2.2.1)
   have S10:=Lib.hid (show(scl t f'.k.h)[10]? = some (.pointer (some ⟨gr,0,none⟩)) by rw[<-HG.out];exact(scl_at t f'.k.h).2.2.2.2.1)
   have HST:=Lib.hid hst'
   clear hst'
   by_cases h3:st'=3
   ·have h3i:((st':Int) != 3)=false:=by simp;omega
    have HTE:=Lib.hid (show t=T by rw[<-HT.out];exact(feedN_end (by rw[<-HST.out];exact h3)).symm)
    clear h3
    have S17:=Lib.hid (show(scl t f'.k.h)[17]? = some (.slice f'.k.h.RB (t).rd.length f'.k.h.rc) from rfl)
    have EL:=Lib.hid (show(scl t f'.k.h).length=18 from rfl)
    have ES:=Lib.hid (show(scl t f'.k.h).set 17 (.slice none 0 0)=scl { t with rd:=[] } { f'.k.h with RB:=none,rc:=0 } from rfl)
    simp only[FF,SF] at hs
    go_wp2_with (first|((with_reducible refine Se.iL 36 ?_);(refine Se.Ld hs rfl rfl (Cell.blk 2 rfl S8.out) ?_))|((with_reducible refine Se.iL 80 ?_);(refine Se.Ld hs rfl rfl (Cell.blk 2 rfl S17.out) ?_))|((with_reducible refine Se.iN ?_);(refine Se.Soq 2 hs rfl rfl rfl (by rw[EL.out];omega) (ES.out) ?_;clear hs;intro w hs;try simp only[pS] at hs)))
    try simp only[Exit.noGoto_ret]
    go_ret2;rw[<-HTE.out,<-HG.out];exact⟨_,_,rfl,feed_out hs HOK.out⟩
   ·have h3i:((st':Int) != 3)=true:=by simp;omega
    obtain⟨rn,p,e2,hnx⟩:∃ rn p e2,nextE t.r=(rn,p,e2):=⟨_,_,_,rfl⟩
    have HNX:=Lib.hid hnx
    obtain⟨m',hm'⟩:∃ m',m=m'+1:=⟨m-1,by have:=HL.out.resolve_left (by rw[<-HST.out];exact h3);omega⟩
    have HM:=Lib.hid hm'
    have HT2:Hid ((if e2=9 then ({ t with r:=rn }:Ss) else if e2≠0 then feedN m' (endE { t with r:=rn } (whyE e2)) else feedN m' (handleE { t with r:=rn } p))=T):=Lib.hid (by
     have h:=HT.out
     rw[hm'] at h;unfold feedN at h;rw[hnx,if_neg (by rw[<-HST.out];exact h3)] at h;exact h)
    have HO:=Lib.hid (HP.out.2.2.2.resolve_left (by rw[<-HST.out];exact h3))
    have HLm:=Lib.hid (HL.out.resolve_left (by rw[<-HST.out];exact h3))
    have HE:=Lib.hid (next_err hnx)
    have HI2:=Lib.hid (inv_r HI.out (r:=rn) (by have:=HI.out.b;have:=HE.out.1;omega) (by rw[HE.out.2.1];exact HI.out.mo))
    obtain⟨kz,hkz⟩:∃ z,z=n8 p.h.k:=⟨_,rfl⟩
    obtain⟨v,hv⟩:∃ v,v=(getK hdl ((st':Int),kz)).getD .nilFunc:=⟨_,rfl⟩
    obtain⟨b,hb⟩:∃ b,b=(getK hdl ((st':Int),kz)).isSome:=⟨_,rfl⟩
    have HV:=Lib.hid hv
    have HBB:=Lib.hid hb
    have HKZ:=Lib.hid hkz
    have CN:Hid (∀ w,St w0 X (FF g t f' L) w->Calls Tryz.prog 61 #[.pointer (some ⟨gr,0,none⟩)] w fun e' w'=>∃ r1 EA ec r2 DA dc PC,∃ f2:Pf,e'=.returned (.tuple #[.agg PC.toArray,iv e2])/\Hid (PC=pc p.h EA p.en.length ec DA p.da.length dc)/\Hid (f2.k=f'.k)/\St w0 X (eP p EA r1 ec::dP p DA r2 dc::FF g { t with r:=rn } f2 L) w'):=Lib.hid (fun w hs=>by
     rw[<-HG.out];refine(Sr.next_st hs HI.out.mo HI.out.b HP.out.1 (by have:=HP.out.2.1;omega) hnx).mono ?_;rintro e' w' ⟨r1,EA,ec,r2,DA,dc,PC,r',B',c',h1,h2,h4⟩;exact⟨r1,EA,ec,r2,DA,dc,PC,⟨f'.k,B',c',r'⟩,h1,h2,Lib.hid rfl,h4⟩)
    clear hnx hm' hkz hv hb h3 HL HT
    go_upto_region 11 with (first|((with_reducible refine Se.iL 36 ?_);(refine Se.Ld hs rfl rfl (Cell.blk 2 rfl S8.out) ?_))|((with_reducible refine Se.iL 42 ?_);(refine Se.Ld hs rfl rfl (Cell.blk 2 rfl S10.out) ?_))|((with_reducible refine Se.iL 7 ?_);(refine Se.Al hs rfl (pdu_z2) ?_;clear hs;rintro w g7-hs))|((with_reducible refine Se.iN ?_);(refine Se.Sow 0 hs rfl rfl rfl rfl (by rw[HPC.out];exact pc_one2 _ _ _ _ _ _ _) (by rw[HPC.out];kernel_rfl) (by rw[HPC.out];rfl) ?_;clear hs;intro w hs;try simp only[pS] at hs))|(go_at_call 61;refine Calls.mono (CN.out _ hs) ?_;clear hs;rintro e w ⟨q1,EA,ec,q2,DA,dc,PC,f2,rfl,HPC,HF2,hs⟩))
    have PC0:=Lib.hid (show PC[0]? = some (.int .u8 kz) by rw[HPC.out,HKZ.out];rfl)
    have PCL:=Lib.hid (show PC.length=14 by rw[HPC.out];rfl)
    have OK2:=Lib.hid (show OkP { t with r:=rn } f2.k by rw[HF2.out];exact⟨HOK.out.tx,HOK.out.rd,HOK.out.en,HOK.out.re⟩)
    have HG2:=Lib.hid (show f2.k.h.gr=gr by rw[HF2.out];exact HG.out)
    have R8:=Lib.hid (show(scl { t with r:=rn } f2.k.h)[8]? = some (iv st') by rw[HST.out];exact(scl_at { t with r:=rn } f2.k.h).2.2.2.1)
    clear CN S8 S10 HF2 HG HOK
    have SA:=Lib.hid (show ∀ (M:List At) w',St w0 X (M++(.blk g7 65 PC::eP p EA q1 ec::dP p DA q2 dc::FF g { t with r:=rn } f2 L)) w'->Blk w' g7 PC 65/\Blk w' g (scl { t with r:=rn } f2.k.h) 112 from fun M w' h=>⟨h.hold (.blk g7 65 PC) (by simp),h.hold (qS g { t with r:=rn } f2.k.h) (by simp[FF,SF])⟩)
    refine Ch.region' 14 (fun wx=>Blk wx g7 PC 65/\Blk wx g (scl { t with r:=rn } f2.k.h) 112) (fun|0=>true|8=>true|_=>false) (by kernel_rfl) (by decide +kernel) (SA.out [] _ hs.drew) ?_;replace hs:=hs.drew;generalize w.drew=w at hs ⊢;change Ch.CW _ _ _ _ _ [0,1,2,3,4,5,6,7,8,9,10,11,12,13] _ _;refine Ch.cA (f:=88) (args:=#[]) (handlers_st hs) ?_;clear hs;rintro e w⟨gk,kl,rfl,HKP,hs⟩;refine⟨_,rfl,SA.out [_] _ hs,?_⟩;(try simp only[pU])
    iterate 6 ((first|refine Ch.pA ?_|refine Ch.pE (hv:=fun wx hS=>Se.xL (hc:=((hS.2.cell _).trans R8.out))) (h:=?_)|refine Ch.pE (hv:=fun wx hS=>Se.xL (hc:=((hS.1.cell _).trans PC0.out))) (h:=?_));(try simp only[pU]))
    refine Ch.pE (v:=.agg #[.int .i64 (st':Int),.int .u8 kz]) (hv:=fun wx hS=>Pd.xbd rfl (vs:=[(0,.int .i64 (st':Int)),(1,.int .u8 kz)]) rfl (by kernel_rfl)) (h:=?_);(try simp only[pU]);refine Ch.nA (h:=klq hs rfl rfl (k:=((st':Int),kz)) rfl List.mem_cons_self HKP.out Tryz.underlying168 fn_z HV.out.symm HBB.out.symm ?_);refine⟨SA.out [_] _ hs,?_⟩;(try simp only[pU])
    iterate 5 (refine Ch.pA ?_;(try simp only[pU]))
    refine Ch.done ?_
    try simp only[List.drop_succ_cons,List.drop_zero]
    have hs:=hs.drop
    clear HKP SA
    by_cases h9:e2=9
    ·have h9i:(e2:Int)=9:=by omega
     have HTE:=Lib.hid (show({ t with r:=rn }:Ss)=T by rw[<-HT2.out,if_pos h9])
     clear h9 HT2
     have hs:=hs.drop.drop.drop
     have S17:=Lib.hid (show(scl { t with r:=rn } f2.k.h)[17]? = some (.slice f2.k.h.RB ({ t with r:=rn }).rd.length f2.k.h.rc) from rfl)
     have EL:=Lib.hid (show(scl { t with r:=rn } f2.k.h).length=18 from rfl)
     have ES:=Lib.hid (show(scl { t with r:=rn } f2.k.h).set 17 (.slice none 0 0)=scl { { t with r:=rn } with rd:=[] } { f2.k.h with RB:=none,rc:=0 } from rfl)
     simp only[FF,SF] at hs
     go_wp2_with (first|((with_reducible refine Se.iL 80 ?_);(refine Se.Ld hs rfl rfl (Cell.blk 2 rfl S17.out) ?_))|((with_reducible refine Se.iN ?_);(refine Se.Soq 2 hs rfl rfl rfl (by rw[EL.out];omega) (ES.out) ?_;clear hs;intro w hs;try simp only[pS] at hs)))
     try simp only[Exit.noGoto_ret]
     go_ret2;rw[<-HTE.out,<-HG2.out];exact⟨_,_,rfl,feed_out hs OK2.out⟩
    ·have h9b:((e2:Int)==9)=false:=by simp;omega
     by_cases h0:e2=0
     ·subst h0
      have h0b:((0:Nat):Int)=0:=rfl
      have HT3:=Lib.hid (show feedN m' (handleE { t with r:=rn } p)=T by rw[<-HT2.out,if_neg h9,if_neg (by simp)])
      have HK:=Lib.hid (next_ok HNX.out)
      have HS3:=Lib.hid (step_handle HI2.out p)
      have HOB:Hid ((handleE { t with r:=rn } p).out.length<=70368744177664):=Lib.hid (Nat.le_trans HS3.out.out (Nat.le_trans (Nat.add_le_add_left (Nat.le_mul_of_pos_right 2097152 (Nat.succ_pos _)) _) HO.out))
      have HRD:=Lib.hid (show({ t with r:=rn }:Ss).rd.length<=8388608 from Nat.le_trans (Nat.le_add_right _ _) HP.out.2.2.1)
      have HS4:=round_ok HS3.out HK.out HP.out.1 HP.out.2.1 HP.out.2.2.1 HO.out HLm.out HM.out
      have HKG:=Lib.hid (key_get st' p.h.k)
      rw[<-HKZ.out] at HKG
      have HSTT:=Lib.hid (show({ t with r:=rn }:Ss).st=st' from HST.out.symm)
      clear HT2 h9 HO HLm HE HI h9b h3i
      by_cases a1:st'=1/\p.h.k=0#8
      ·obtain rfl:v=fnv 118:=by rw[HV.out,HKG.out,if_pos a1];rfl
       obtain rfl:b=true:=by rw[HBB.out,HKG.out,if_pos a1];rfl
       have HH:=Lib.hid (show handleE { t with r:=rn } p=openE { t with r:=rn } p by unfold handleE;rw[HSTT.out,if_pos a1])
       have CH:Hid (∀ (N:List At) w,St w0 X (N++(eP p EA q1 ec::dP p DA q2 dc::FF g { t with r:=rn } f2 L)) w->Calls Tryz.prog 118 #[.pointer (some ⟨g,0,none⟩),.agg PC.toArray] w fun e w'=>e=.returned (.tuple #[])/\FinR w0 X g (handleE { t with r:=rn } p) f2.k.h.gr L w'):=Lib.hid (fun N w hs=>by
        have hob:=HOB.out
        rw[HH.out] at hob ⊢;rw[HPC.out];exact openR N p hs OK2.out HI2.out hob)
       clear HH HV HBB HKG a1
       go_wp2_with (first|((with_reducible refine Se.iL 60 ?_);(refine Se.Ldw hs rfl rfl (Reads.blk 0 rfl) (by rw[PCL.out];kernel_rfl) ?_))|(go_at_call 118;refine Calls.mono (CH.out [_] _ hs) ?_;clear hs;rintro e w ⟨rfl,hs⟩))
       obtain⟨f3,ok3,hg3,hs⟩:=hs
       have OK3:=Lib.hid ok3
       have HG3:=Lib.hid (hg3.trans HG2.out)
       clear ok3 hg3
       go_roundg (0+m')
       case measure=>have:=HM.out;omega
       case rel=>exact⟨m',_,f3,rfl,HT3,HS4.1,HS4.2.1,OK3,HG3,HS4.2.2,hs⟩
      ·by_cases a2:st'=2/\p.h.k=4#8
       ·obtain rfl:v=fnv 119:=by rw[HV.out,HKG.out,if_neg a1,if_pos a2];rfl
        obtain rfl:b=true:=by rw[HBB.out,HKG.out,if_neg a1,if_pos a2];rfl
        have HH:=Lib.hid (show handleE { t with r:=rn } p=commandE { t with r:=rn } p by unfold handleE;rw[HSTT.out,if_neg a1,if_pos a2])
        have CH:Hid (∀ (N:List At) w,St w0 X (N++(eP p EA q1 ec::dP p DA q2 dc::FF g { t with r:=rn } f2 L)) w->Calls Tryz.prog 119 #[.pointer (some ⟨g,0,none⟩),.agg PC.toArray] w fun e w'=>e=.returned (.tuple #[])/\FinR w0 X g (handleE { t with r:=rn } p) f2.k.h.gr L w'):=Lib.hid (fun N w hs=>by
         have hob:=HOB.out
         rw[HH.out] at hob ⊢;rw[HPC.out];exact commandR N p hs OK2.out HI2.out (valid_en HK.out.v a2.2) (Nat.le_trans (valid_da HK.out.v) (by decide)) HRD.out hob)
        clear HH HV HBB HKG a2 a1
        go_wp2_with (first|((with_reducible refine Se.iL 60 ?_);(refine Se.Ldw hs rfl rfl (Reads.blk 0 rfl) (by rw[PCL.out];kernel_rfl) ?_))|(go_at_call 119;refine Calls.mono (CH.out [_] _ hs) ?_;clear hs;rintro e w ⟨rfl,hs⟩))
        obtain⟨f3,ok3,hg3,hs⟩:=hs
        have OK3:=Lib.hid ok3
        have HG3:=Lib.hid (hg3.trans HG2.out)
        clear ok3 hg3
        go_roundg (0+m')
        case measure=>have:=HM.out;omega
        case rel=>exact⟨m',_,f3,rfl,HT3,HS4.1,HS4.2.1,OK3,HG3,HS4.2.2,hs⟩
       ·by_cases a3:st'=2/\p.h.k=6#8
        ·obtain rfl:v=fnv 120:=by rw[HV.out,HKG.out,if_neg a1,if_neg a2,if_pos a3];rfl
         obtain rfl:b=true:=by rw[HBB.out,HKG.out,if_neg a1,if_neg a2,if_pos a3];rfl
         have HH:=Lib.hid (show handleE { t with r:=rn } p=dataE { t with r:=rn } p by unfold handleE;rw[HSTT.out,if_neg a1,if_neg a2,if_pos a3])
         have CH:Hid (∀ (N:List At) w,St w0 X (N++(eP p EA q1 ec::dP p DA q2 dc::FF g { t with r:=rn } f2 L)) w->Calls Tryz.prog 120 #[.pointer (some ⟨g,0,none⟩),.agg PC.toArray] w fun e w'=>e=.returned (.tuple #[])/\FinR w0 X g (handleE { t with r:=rn } p) f2.k.h.gr L w'):=Lib.hid (fun N w hs=>by
          have hob:=HOB.out
          rw[HH.out] at hob ⊢;rw[HPC.out];exact dataR N p hs OK2.out HI2.out (Nat.le_trans (valid_da HK.out.v) (by decide)) HRD.out hob)
         clear HH HV HBB HKG a3 a1 a2
         go_wp2_with (first|((with_reducible refine Se.iL 60 ?_);(refine Se.Ldw hs rfl rfl (Reads.blk 0 rfl) (by rw[PCL.out];kernel_rfl) ?_))|(go_at_call 120;refine Calls.mono (CH.out [_] _ hs) ?_;clear hs;rintro e w ⟨rfl,hs⟩))
         obtain⟨f3,ok3,hg3,hs⟩:=hs
         have OK3:=Lib.hid ok3
         have HG3:=Lib.hid (hg3.trans HG2.out)
         clear ok3 hg3
         go_roundg (0+m')
         case measure=>have:=HM.out;omega
         case rel=>exact⟨m',_,f3,rfl,HT3,HS4.1,HS4.2.1,OK3,HG3,HS4.2.2,hs⟩
        ·by_cases a4:st'=2/\p.h.k=2#8
         ·obtain rfl:v=fnv 121:=by rw[HV.out,HKG.out,if_neg a1,if_neg a2,if_neg a3,if_pos a4];rfl
          obtain rfl:b=true:=by rw[HBB.out,HKG.out,if_neg a1,if_neg a2,if_neg a3,if_pos a4];rfl
          have HH:=Lib.hid (show handleE { t with r:=rn } p=overE { t with r:=rn } 6 by unfold handleE;rw[HSTT.out,if_neg a1,if_neg a2,if_neg a3,if_pos a4])
          have CH:Hid (∀ (N:List At) w,St w0 X (N++(eP p EA q1 ec::dP p DA q2 dc::FF g { t with r:=rn } f2 L)) w->Calls Tryz.prog 121 #[.pointer (some ⟨g,0,none⟩),.agg PC.toArray] w fun e w'=>e=.returned (.tuple #[])/\FinR w0 X g (handleE { t with r:=rn } p) f2.k.h.gr L w'):=Lib.hid (fun N w hs=>by
           have hob:=HOB.out
           rw[HH.out] at hob ⊢;rw[HPC.out];exact askedR N p hs OK2.out)
          clear HH HV HBB HKG a4 a1 a2 a3
          go_wp2_with (first|((with_reducible refine Se.iL 60 ?_);(refine Se.Ldw hs rfl rfl (Reads.blk 0 rfl) (by rw[PCL.out];kernel_rfl) ?_))|(go_at_call 121;refine Calls.mono (CH.out [_] _ hs) ?_;clear hs;rintro e w ⟨rfl,hs⟩))
          obtain⟨f3,ok3,hg3,hs⟩:=hs
          have OK3:=Lib.hid ok3
          have HG3:=Lib.hid (hg3.trans HG2.out)
          clear ok3 hg3
          go_roundg (0+m')
          case measure=>have:=HM.out;omega
          case rel=>exact⟨m',_,f3,rfl,HT3,HS4.1,HS4.2.1,OK3,HG3,HS4.2.2,hs⟩
         ·obtain rfl:b=false:=by rw[HBB.out,HKG.out,if_neg a1,if_neg a2,if_neg a3,if_neg a4];rfl
          have HH:=Lib.hid (show handleE { t with r:=rn } p=endE { t with r:=rn } 2 by unfold handleE;rw[HSTT.out,if_neg a1,if_neg a2,if_neg a3,if_neg a4])
          have CE:Hid (∀ (N:List At) w,St w0 X (N++FF g { t with r:=rn } f2 L) w->Calls Tryz.prog 89 #[.pointer (some ⟨g,0,none⟩),.int .i64 2] w fun e w'=>e=.returned (.tuple #[])/\FinR w0 X g (handleE { t with r:=rn } p) f2.k.h.gr L w'):=Lib.hid (fun N w hs=>by
           have hob:=HOB.out
           rw[HH.out] at hob ⊢;exact endR N hs OK2.out 2 hob)
          clear HH HV HBB HKG a1 a2 a3 a4
          go_wp2_with (first|(go_at_call 89;refine Calls.mono (CE.out [_,_,_] _ hs) ?_;clear hs;rintro e w ⟨rfl,hs⟩))
          obtain⟨f3,ok3,hg3,hs⟩:=hs
          have OK3:=Lib.hid ok3
          have HG3:=Lib.hid (hg3.trans HG2.out)
          clear ok3 hg3
          go_roundg (0+m')
          case measure=>have:=HM.out;omega
          case rel=>exact⟨m',_,f3,rfl,HT3,HS4.1,HS4.2.1,OK3,HG3,HS4.2.2,hs⟩
     ·have h0b:((e2:Int) != 0)=true:=by simp;omega
      have HT3:=Lib.hid (show feedN m' (endE { t with r:=rn } (whyE e2))=T by rw[<-HT2.out,if_neg h9,if_pos h0])
      have HSt:=step_end HI2.out (whyE e2)
      have HOB:Hid ((endE { t with r:=rn } (whyE e2)).out.length<=70368744177664):=Lib.hid (Nat.le_trans HSt.out (Nat.le_trans (Nat.add_le_add_left (Nat.le_mul_of_pos_right 2097152 (Nat.succ_pos _)) _) HO.out))
      have HS3:=Lib.hid HSt
      clear HSt h0 h9 HT2
      have CE:Hid (∀ (N:List At) w,St w0 X (N++FF g { t with r:=rn } f2 L) w->Calls Tryz.prog 89 #[.pointer (some ⟨g,0,none⟩),iv (whyE e2)] w fun e w'=>e=.returned (.tuple #[])/\FinR w0 X g (endE { t with r:=rn } (whyE e2)) f2.k.h.gr L w'):=Lib.hid (fun N w hs=>endR N hs OK2.out (whyE e2) HOB.out)
      go_wp2_with (first|(go_at_call 90;refine Calls.mono (reason_st hs e2) ?_;clear hs;rintro e w ⟨rfl,hs⟩)|(go_at_call 89;refine Calls.mono (CE.out [_,_,_] _ hs) ?_;clear hs;rintro e w ⟨rfl,hs⟩))
      have HS4:=round_end (m':=m') HS3.out HE.out HP.out rfl rfl
      obtain⟨f3,ok3,hg3,hs⟩:=hs
      have OK3:=Lib.hid ok3
      have HG3:=Lib.hid (hg3.trans HG2.out)
      clear ok3 hg3
      go_roundg (0+m')
      case measure=>have:=HM.out;omega
      case rel=>exact⟨m',_,f3,rfl,HT3,HS4.1,HS4.2.1,OK3,HG3,HS4.2.2,hs⟩
 ·have h0b:((e1:Int) != 0)=true:=by simp;omega
  rw[if_pos h0] at HR2
  cases HR2
  have HSR:=Lib.hid (show({ s with r:=r1 }:Ss)=s by have:=(add_b HA.out).2.1 h0;rw[this])
  clear h0 h3
  go_enter Tryz.func37,Tryz.ntmps37
  go_wp2_with fail
  refine wp_scope_straight ?_
  go_wp2_with (first|((with_reducible refine Se.iL 19 ?_);(refine Se.Ld hs rfl rfl (Cell.blk 2 rfl S8.out) ?_))|((with_reducible refine Se.iL 24 ?_);(refine Se.Ld hs rfl rfl (Cell.blk 2 rfl S10.out) ?_))|(go_at_call 87;refine Calls.mono (CNo.out _ hs) ?_;clear hs;rintro e w ⟨rfl,hs⟩)|(go_at_call 60;refine Calls.mono (CAd.out _ hs) ?_;clear hs;rintro e w ⟨f1,rfl,hf1,hs⟩))
  simp only[Exit.noGoto_ret];go_ret2;rw[HSR.out] at hs;exact⟨none,0,rfl,by rw[HGR.out,<-hf1];exact feedR_nil hs (by rw[hf1];exact HOK.out)⟩
end Sn
end Go.Proofs.YtjnllcnknjlmmaaGreat
namespace Go.Proofs.YtjnllcnknjlmmaaGreat
open Go Go.RowKit
namespace Sn
open Pd (iv fv)
open Sr (pR pO)
open Se (St At Reads Cell mp)
open Li (v8 Blk)
variable {w0 w:World} {X:List Nat} {L:List At}
attribute [local irreducible] Calls
structure Rw where
 hd:Bool
 dd:Bool
 al:Int
 ic:Int
 md:Int
 tr:Int
 os:Int
def rwl(r:Rw):List Value:=[.bool r.hd,.bool r.dd,.int .i64 r.al,.int .i64 r.ic,.int .i64 r.md,.int .i64 r.tr,.int .i64 r.os]
def btw(v a b:Int):Bool:=decide (a<=v)&&decide (v<=b)
def m4(v:Int):Bool:=Int.tmod v 4==0
def vB(r:Rw):Bool:=btw r.al 0 31&&btw r.ic 0 8192&&btw r.md 4096 1048576&&m4 r.md&&btw r.tr 4096 1048576&&m4 r.tr&&btw r.os 1 256
def cfR(r:Rw):Cf:=⟨r.hd,r.dd,r.al.toNat,r.ic.toNat,r.md.toNat,r.tr.toNat,r.os.toNat⟩
theorem vB_ok{r:Rw}(h:vB r=true):rwl r=cfl (cfR r)/\(cfR r).ok:=by
 unfold vB btw m4 at h;simp only[Bool.and_eq_true,decide_eq_true_eq,beq_iff_eq] at h
 obtain⟨⟨⟨⟨⟨⟨⟨a1,a2⟩,a3,a4⟩,a5,a6⟩,a7⟩,a8,a9⟩,b1⟩,b2,b3⟩:=h
 rw[Int.tmod_eq_emod_of_nonneg (by omega)] at a7 b1;refine⟨?_,⟨?_,?_,?_,?_,?_,?_,?_,?_,?_,?_⟩⟩
 ·unfold rwl cfl cfR iv
  simp only[Int.toNat_of_nonneg (show 0<=r.al by omega),Int.toNat_of_nonneg (show 0<=r.ic by omega),Int.toNat_of_nonneg (show 0<=r.md by omega),Int.toNat_of_nonneg (show 0<=r.tr by omega),Int.toNat_of_nonneg (show 0<=r.os by omega)]
 all_goals (simp only[cfR];omega)
def rwC(c:Cf):Rw:=⟨c.hd,c.dd,c.al,c.ic,c.md,c.tr,c.os⟩
theorem rwC_ok{c:Cf}(h:c.ok):vB (rwC c)=true/\cfR (rwC c)=c:=by
 refine⟨?_,rfl⟩;unfold vB btw m4 rwC;simp only[Bool.and_eq_true,decide_eq_true_eq,beq_iff_eq];rw[Int.tmod_eq_emod_of_nonneg (by omega),Int.tmod_eq_emod_of_nonneg (by omega)]
 have a1:=h.al;have a2:=h.ic;have a3:=h.m1;have a4:=h.md;have a5:=h.m4;have a6:=h.t1;have a7:=h.tr;have a8:=h.t4;have a9:=h.o1;have b1:=h.os
 omega
theorem valid_st(hs:St w0 X L w)(r:Rw):Calls Tryz.prog 86 #[.agg (rwl r).toArray] w fun e w'=>e=.returned (.bool (vB r))/\St w0 X L w':=by
 obtain⟨R,hR⟩:∃ R,R=rwl r:=⟨_,rfl⟩
 obtain⟨al,hal⟩:∃ x,x=r.al:=⟨_,rfl⟩
 have R2:=Lib.hid (show R[2]? = some (.int .i64 al) by rw[hR,hal];rfl)
 obtain⟨ic,hic⟩:∃ x,x=r.ic:=⟨_,rfl⟩
 have R3:=Lib.hid (show R[3]? = some (.int .i64 ic) by rw[hR,hic];rfl)
 obtain⟨md,hmd⟩:∃ x,x=r.md:=⟨_,rfl⟩
 have R4:=Lib.hid (show R[4]? = some (.int .i64 md) by rw[hR,hmd];rfl)
 obtain⟨tr,htr⟩:∃ x,x=r.tr:=⟨_,rfl⟩
 have R5:=Lib.hid (show R[5]? = some (.int .i64 tr) by rw[hR,htr];rfl)
 obtain⟨os,hos⟩:∃ x,x=r.os:=⟨_,rfl⟩
 have R6:=Lib.hid (show R[6]? = some (.int .i64 os) by rw[hR,hos];rfl)
 obtain⟨b1,hb1⟩:∃ x,x=btw al 0 31:=⟨_,rfl⟩
 obtain⟨b2,hb2⟩:∃ x,x=btw ic 0 8192:=⟨_,rfl⟩
 obtain⟨b3,hb3⟩:∃ x,x=btw md 4096 1048576:=⟨_,rfl⟩
 obtain⟨b4,hb4⟩:∃ x,x=m4 md:=⟨_,rfl⟩
 obtain⟨b5,hb5⟩:∃ x,x=btw tr 4096 1048576:=⟨_,rfl⟩
 obtain⟨b6,hb6⟩:∃ x,x=m4 tr:=⟨_,rfl⟩
 obtain⟨b7,hb7⟩:∃ x,x=btw os 1 256:=⟨_,rfl⟩
 have E:=Lib.hid (show vB r=(b1&&b2&&b3&&b4&&b5&&b6&&b7) by rw[hb1,hb2,hb3,hb4,hb5,hb6,hb7,hal,hic,hmd,htr,hos];rfl)
 have M4:(Int.tmod md 4==0)=b4:=hb4.symm
 have M6:(Int.tmod tr 4==0)=b6:=hb6.symm
 have Cb1:=Lib.hid (show ∀ (L':List At) w,St w0 X L' w->Calls Tryz.prog 117 #[.int .i64 al,.int .i64 0,.int .i64 31] w fun e w'=>e=.returned (.bool b1)/\St w0 X L' w' from fun L' w hs=>by rw[hb1];exact within_st hs al 0 31)
 have Cb2:=Lib.hid (show ∀ (L':List At) w,St w0 X L' w->Calls Tryz.prog 117 #[.int .i64 ic,.int .i64 0,.int .i64 8192] w fun e w'=>e=.returned (.bool b2)/\St w0 X L' w' from fun L' w hs=>by rw[hb2];exact within_st hs ic 0 8192)
 have Cb3:=Lib.hid (show ∀ (L':List At) w,St w0 X L' w->Calls Tryz.prog 117 #[.int .i64 md,.int .i64 4096,.int .i64 1048576] w fun e w'=>e=.returned (.bool b3)/\St w0 X L' w' from fun L' w hs=>by rw[hb3];exact within_st hs md 4096 1048576)
 have Cb5:=Lib.hid (show ∀ (L':List At) w,St w0 X L' w->Calls Tryz.prog 117 #[.int .i64 tr,.int .i64 4096,.int .i64 1048576] w fun e w'=>e=.returned (.bool b5)/\St w0 X L' w' from fun L' w hs=>by rw[hb5];exact within_st hs tr 4096 1048576)
 have Cb7:=Lib.hid (show ∀ (L':List At) w,St w0 X L' w->Calls Tryz.prog 117 #[.int .i64 os,.int .i64 1,.int .i64 256] w fun e w'=>e=.returned (.bool b7)/\St w0 X L' w' from fun L' w hs=>by rw[hb7];exact within_st hs os 1 256)
 rw[E.out,<-hR];clear hR hal hic hmd htr hos hb1 hb2 hb3 hb4 hb5 hb6 hb7 E
 cases b1 with
 | false =>
  go_enter Tryz.func86,Tryz.ntmps86
  go_wp2_with (first|((with_reducible refine Se.iL 6 ?_);(refine Se.Ld hs rfl rfl (Cell.blk 0 rfl R2.out) ?_))|((first|with_reducible refine Se.ab hs ?_|with_reducible refine Se.abc hs ?_);clear hs;(first|(generalize w.heap.size=g1;intro w hs)))|(go_at_call 117;refine Calls.mono (Cb1.out _ _ hs) ?_;clear hs;rintro e w ⟨rfl,hs⟩))
  go_ret;exact⟨by simp,hs.drop⟩
 | true =>
 cases b2 with
 | false =>
  go_enter Tryz.func86,Tryz.ntmps86
  go_wp2_with (first|((with_reducible refine Se.iL 6 ?_);(refine Se.Ld hs rfl rfl (Cell.blk 0 rfl R2.out) ?_))|((with_reducible refine Se.iL 11 ?_);(refine Se.Ld hs rfl rfl (Cell.blk 0 rfl R3.out) ?_))|((first|with_reducible refine Se.ab hs ?_|with_reducible refine Se.abc hs ?_);clear hs;(first|(generalize w.heap.size=g1;intro w hs)))|(go_at_call 117;refine Calls.mono (Cb1.out _ _ hs) ?_;clear hs;rintro e w ⟨rfl,hs⟩)|(go_at_call 117;refine Calls.mono (Cb2.out _ _ hs) ?_;clear hs;rintro e w ⟨rfl,hs⟩))
  go_ret;exact⟨by simp,hs.drop⟩
 | true =>
 cases b3 with
 | false =>
  go_enter Tryz.func86,Tryz.ntmps86
  go_wp2_with (first|((with_reducible refine Se.iL 6 ?_);(refine Se.Ld hs rfl rfl (Cell.blk 0 rfl R2.out) ?_))|((with_reducible refine Se.iL 11 ?_);(refine Se.Ld hs rfl rfl (Cell.blk 0 rfl R3.out) ?_))|((with_reducible refine Se.iL 17 ?_);(refine Se.Ld hs rfl rfl (Cell.blk 0 rfl R4.out) ?_))|((first|with_reducible refine Se.ab hs ?_|with_reducible refine Se.abc hs ?_);clear hs;(first|(generalize w.heap.size=g1;intro w hs)))|(go_at_call 117;refine Calls.mono (Cb1.out _ _ hs) ?_;clear hs;rintro e w ⟨rfl,hs⟩)|(go_at_call 117;refine Calls.mono (Cb2.out _ _ hs) ?_;clear hs;rintro e w ⟨rfl,hs⟩)|(go_at_call 117;refine Calls.mono (Cb3.out _ _ hs) ?_;clear hs;rintro e w ⟨rfl,hs⟩))
  go_ret;exact⟨by simp,hs.drop⟩
 | true =>
 cases b4 with
 | false =>
  go_enter Tryz.func86,Tryz.ntmps86
  go_wp2_with (first|((with_reducible refine Se.iL 6 ?_);(refine Se.Ld hs rfl rfl (Cell.blk 0 rfl R2.out) ?_))|((with_reducible refine Se.iL 11 ?_);(refine Se.Ld hs rfl rfl (Cell.blk 0 rfl R3.out) ?_))|((with_reducible refine Se.iL 17 ?_);(refine Se.Ld hs rfl rfl (Cell.blk 0 rfl R4.out) ?_))|((with_reducible refine Se.iL 22 ?_);(refine Se.Ld hs rfl rfl (Cell.blk 0 rfl R4.out) ?_))|((first|with_reducible refine Se.ab hs ?_|with_reducible refine Se.abc hs ?_);clear hs;(first|(generalize w.heap.size=g1;intro w hs)))|(go_at_call 117;refine Calls.mono (Cb1.out _ _ hs) ?_;clear hs;rintro e w ⟨rfl,hs⟩)|(go_at_call 117;refine Calls.mono (Cb2.out _ _ hs) ?_;clear hs;rintro e w ⟨rfl,hs⟩)|(go_at_call 117;refine Calls.mono (Cb3.out _ _ hs) ?_;clear hs;rintro e w ⟨rfl,hs⟩))
  go_ret;exact⟨by simp,hs.drop⟩
 | true =>
 cases b5 with
 | false =>
  go_enter Tryz.func86,Tryz.ntmps86
  go_wp2_with (first|((with_reducible refine Se.iL 6 ?_);(refine Se.Ld hs rfl rfl (Cell.blk 0 rfl R2.out) ?_))|((with_reducible refine Se.iL 11 ?_);(refine Se.Ld hs rfl rfl (Cell.blk 0 rfl R3.out) ?_))|((with_reducible refine Se.iL 17 ?_);(refine Se.Ld hs rfl rfl (Cell.blk 0 rfl R4.out) ?_))|((with_reducible refine Se.iL 22 ?_);(refine Se.Ld hs rfl rfl (Cell.blk 0 rfl R4.out) ?_))|((with_reducible refine Se.iL 29 ?_);(refine Se.Ld hs rfl rfl (Cell.blk 0 rfl R5.out) ?_))|((first|with_reducible refine Se.ab hs ?_|with_reducible refine Se.abc hs ?_);clear hs;(first|(generalize w.heap.size=g1;intro w hs)))|(go_at_call 117;refine Calls.mono (Cb1.out _ _ hs) ?_;clear hs;rintro e w ⟨rfl,hs⟩)|(go_at_call 117;refine Calls.mono (Cb2.out _ _ hs) ?_;clear hs;rintro e w ⟨rfl,hs⟩)|(go_at_call 117;refine Calls.mono (Cb3.out _ _ hs) ?_;clear hs;rintro e w ⟨rfl,hs⟩)|(go_at_call 117;refine Calls.mono (Cb5.out _ _ hs) ?_;clear hs;rintro e w ⟨rfl,hs⟩))
  go_ret;exact⟨by simp,hs.drop⟩
 | true =>
 cases b6 with
 | false =>
  go_enter Tryz.func86,Tryz.ntmps86
  go_wp2_with (first|((with_reducible refine Se.iL 6 ?_);(refine Se.Ld hs rfl rfl (Cell.blk 0 rfl R2.out) ?_))|((with_reducible refine Se.iL 11 ?_);(refine Se.Ld hs rfl rfl (Cell.blk 0 rfl R3.out) ?_))|((with_reducible refine Se.iL 17 ?_);(refine Se.Ld hs rfl rfl (Cell.blk 0 rfl R4.out) ?_))|((with_reducible refine Se.iL 22 ?_);(refine Se.Ld hs rfl rfl (Cell.blk 0 rfl R4.out) ?_))|((with_reducible refine Se.iL 29 ?_);(refine Se.Ld hs rfl rfl (Cell.blk 0 rfl R5.out) ?_))|((with_reducible refine Se.iL 34 ?_);(refine Se.Ld hs rfl rfl (Cell.blk 0 rfl R5.out) ?_))|((first|with_reducible refine Se.ab hs ?_|with_reducible refine Se.abc hs ?_);clear hs;(first|(generalize w.heap.size=g1;intro w hs)))|(go_at_call 117;refine Calls.mono (Cb1.out _ _ hs) ?_;clear hs;rintro e w ⟨rfl,hs⟩)|(go_at_call 117;refine Calls.mono (Cb2.out _ _ hs) ?_;clear hs;rintro e w ⟨rfl,hs⟩)|(go_at_call 117;refine Calls.mono (Cb3.out _ _ hs) ?_;clear hs;rintro e w ⟨rfl,hs⟩)|(go_at_call 117;refine Calls.mono (Cb5.out _ _ hs) ?_;clear hs;rintro e w ⟨rfl,hs⟩))
  go_ret;exact⟨by simp,hs.drop⟩
 | true =>
 go_enter Tryz.func86,Tryz.ntmps86
 go_wp2_with (first|((with_reducible refine Se.iL 6 ?_);(refine Se.Ld hs rfl rfl (Cell.blk 0 rfl R2.out) ?_))|((with_reducible refine Se.iL 11 ?_);(refine Se.Ld hs rfl rfl (Cell.blk 0 rfl R3.out) ?_))|((with_reducible refine Se.iL 17 ?_);(refine Se.Ld hs rfl rfl (Cell.blk 0 rfl R4.out) ?_))|((with_reducible refine Se.iL 22 ?_);(refine Se.Ld hs rfl rfl (Cell.blk 0 rfl R4.out) ?_))|((with_reducible refine Se.iL 29 ?_);(refine Se.Ld hs rfl rfl (Cell.blk 0 rfl R5.out) ?_))|((with_reducible refine Se.iL 34 ?_);(refine Se.Ld hs rfl rfl (Cell.blk 0 rfl R5.out) ?_))|((with_reducible refine Se.iL 41 ?_);(refine Se.Ld hs rfl rfl (Cell.blk 0 rfl R6.out) ?_))|((first|with_reducible refine Se.ab hs ?_|with_reducible refine Se.abc hs ?_);clear hs;(first|(generalize w.heap.size=g1;intro w hs)))|(go_at_call 117;refine Calls.mono (Cb1.out _ _ hs) ?_;clear hs;rintro e w ⟨rfl,hs⟩)|(go_at_call 117;refine Calls.mono (Cb2.out _ _ hs) ?_;clear hs;rintro e w ⟨rfl,hs⟩)|(go_at_call 117;refine Calls.mono (Cb3.out _ _ hs) ?_;clear hs;rintro e w ⟨rfl,hs⟩)|(go_at_call 117;refine Calls.mono (Cb5.out _ _ hs) ?_;clear hs;rintro e w ⟨rfl,hs⟩)|(go_at_call 117;refine Calls.mono (Cb7.out _ _ hs) ?_;clear hs;rintro e w ⟨rfl,hs⟩))
 go_ret;exact⟨rfl,hs.drop⟩
def newS(c:Cf):Ss:={ c:=c }
theorem inv_new{c:Cf}(h:c.ok):Inv (newS c):=⟨h,by show(2097152:Nat)≠0;decide,Nat.zero_le _,fun x hx=>absurd hx List.not_mem_nil,Nat.zero_le _,List.nodup_nil⟩
theorem bd_fm0(w:World):(Instr.build 54 #[]).run Tryz.prog w=.ok (fv ⟨false,false,0⟩) w:=by kernel_rfl
def newH(gr gt gp:Nat):Hs:={ gr:=gr,gt:=gt,gp:=gp }
theorem bd_ses(c:Cf)(gr gt gp:Nat)(w:World):(Instr.build 112 #[(0,.agg (cfl c).toArray),(1,.bool true),(2,.int .i64 1),(4,.pointer (some ⟨gr,0,none⟩)),(7,.map (some gt)),(8,.map (some gp))]).run Tryz.prog w=.ok (.agg (scl (newS c) (newH gr gt gp)).toArray) w:=by kernel_rfl
theorem snew_yes(hs:St w0 X L w)(r:Rw)(h:vB r=true):Calls Tryz.prog 36 #[.agg (rwl r).toArray] w fun e w'=>∃ g f,e=.returned (.tuple #[.pointer (some ⟨g,0,none⟩),iv 0])/\OkP (newS (cfR r)) f.k/\St w0 X (FF g (newS (cfR r)) f L) w':=by
 obtain⟨c,hc⟩:∃ c,c=cfR r:=⟨_,rfl⟩
 obtain⟨R,hR⟩:∃ R,R=rwl r:=⟨_,rfl⟩
 have hcl:R=cfl c:=by rw[hR,hc];exact(vB_ok h).1
 have RL:=Lib.hid (show R.length=7 by rw[hR];rfl)
 have CV:=Lib.hid (show ∀ (L':List At) w,St w0 X L' w->Calls Tryz.prog 86 #[.agg R.toArray] w fun e w'=>e=.returned (.bool true)/\St w0 X L' w' from fun L' w hs=>by rw[hR,<-h];exact valid_st hs r)
 have BS:=Lib.hid (show ∀ gr gt gp w,(Instr.build 112 #[(0,.agg R.toArray),(1,.bool true),(2,.int .i64 1),(4,.pointer (some ⟨gr,0,none⟩)),(7,.map (some gt)),(8,.map (some gp))]).run Tryz.prog w=.ok (.agg (scl (newS c) (newH gr gt gp)).toArray) w by intro gr gt gp w;rw[hcl];exact bd_ses c gr gt gp w)
 have SLL:=Lib.hid (show ∀ gr gt gp,(scl (newS c) (newH gr gt gp)).length=18 from fun _ _ _=>rfl)
 have CN:=Lib.hid (show ∀ (L':List At) w,St w0 X L' w->Calls Tryz.prog 56 #[fv ⟨false,false,0⟩,.int .i64 2097152] w fun e w'=>∃ g,e=.returned (.tuple #[.pointer (some ⟨g,0,none⟩),iv 0])/\St w0 X (pR g { f:=⟨false,false,0⟩,mo:=2097152 } none 0::pO none none 0 { f:=⟨false,false,0⟩,mo:=2097152 }::L') w' from fun L' w hs=>Sr.new_yes hs ⟨false,false,0⟩ 2097152 (by decide))
 rw[<-hR,<-hc];clear hR h hc hcl
 go_enter Tryz.func36,Tryz.ntmps36
 go_upto_region 6 with (first|((with_reducible refine Se.iL 6 ?_);(refine Se.Ldw hs rfl rfl (Reads.blk 0 rfl) (by rw[RL.out];kernel_rfl) ?_))|((with_reducible refine Se.iL 10 ?_);(refine Se.Bd rfl rfl (bd_fm0 _) ?_))|((first|with_reducible refine Se.ab hs ?_|with_reducible refine Se.abc hs ?_);clear hs;(first|(generalize w.heap.size=g1;intro w hs)))|(go_at_call 86;refine Calls.mono (CV.out _ _ hs) ?_;clear hs;rintro e w ⟨rfl,hs⟩)|(go_at_call 56;refine Calls.mono (CN.out _ _ hs) ?_;clear hs;rintro e w ⟨gr,rfl,hs⟩))
 go_wp2_with (first|((with_reducible refine Se.iL 17 ?_);(refine Se.Ldw hs rfl rfl (Reads.blk 2 rfl) (by rw[RL.out];kernel_rfl) ?_))|((with_reducible refine Se.iL 19 ?_);(refine Se.toL rfl (Se.mmk (o:=⟨some 19,_,_,_,_,_⟩) hs .u16 rfl ?_);clear hs;rintro w gt-hs))|((with_reducible refine Se.iL 20 ?_);(refine Se.toL rfl (Se.mmk (o:=⟨some 20,_,_,_,_,_⟩) hs .u16 rfl ?_);clear hs;rintro w gp-hs))|((with_reducible refine Se.iL 21 ?_);(refine Se.Bd rfl rfl (BS.out _ _ _ _) ?_))|((with_reducible refine Se.iL 22 ?_);(refine Se.toL rfl (Se.bx hs rfl rfl (l:=scl (newS c) (newH gr gt gp)) rfl ?_);clear hs;rintro w g22-hs)))
 go_ret2;refine⟨g22,⟨⟨newH gr gt gp,none,none,[],[]⟩,none,0,none⟩,rfl,⟨rfl,rfl,by simp,by simp⟩,?_⟩;replace hs:=hs.pull 1 rfl;replace hs:=hs.pull 2 rfl;replace hs:=hs.pull 2 rfl;replace hs:=hs.pull 4 rfl;replace hs:=hs.pull 4 rfl;simp only[List.eraseIdx_cons_succ,List.eraseIdx_cons_zero] at hs
 have h1:=((hs.sub (L':=pR gr { f:=⟨false,false,0⟩,mo:=2097152 } none 0::pO none none 0 { f:=⟨false,false,0⟩,mo:=2097152 }::qS g22 (newS c) (newH gr gt gp)::mp gt .u16 []::mp gp .u16 []::L) (List.Sublist.cons_cons _ (List.Sublist.cons_cons _ (List.Sublist.cons_cons _ (List.Sublist.cons_cons _ (List.Sublist.cons_cons _ (List.sublist_cons_self _ _))))))).nil_own 67 none).perm (List.perm_append_comm_assoc [_] [_,_,_,_,_] _)
 exact((h1.nil_own 1 none).perm (List.perm_append_comm_assoc [_] [_,_,_] _))
theorem FF_front(N:List At){g:Nat}{s:Ss}{f:Pf}:(N++FF g s f L).Perm (FF g s f (N++L)) :=
 (List.perm_append_comm_assoc N [_,_] _).trans (List.Perm.cons _ (List.Perm.cons _ (insM_SF N)))
theorem feed_m(N:List At){g:Nat}{s:Ss}{f:Pf}(hs:St w0 X (N++FF g s f L) w)(ok:OkP s f.k)(hi:Inv s)(x:Bs){A:Option Addr}{n c:Nat}(hn:n=x.length)(hx:Reads (N++L) A (x.map v8))(hnl:n<=70368744177664)
  (h1:s.r.nb+s.r.b.length+n<=70368744177664) (h2:s.r.np+s.r.b.length+n<=70368744177664) (h3:s.out.length+2097152*(s.r.b.length+n+1)<=70368744177664) {s':Ss} {l:List Rq} {e:Nat} (hr:feedE s x=(s',l,e)) :
  Calls Tryz.prog 37 #[.pointer (some ⟨g,0,none⟩),.slice A n c] w fun e' w'=>∃ RB rc rq rl f',e'=.returned (.tuple #[.slice RB l.length rc,iv e])/\Hid (rqo rl=l/\∀ x∈rl,x.1.en.length=64)/\OkP s' f'.k/\St w0 X (.own 67 rq RB l.length rc (rqs rl)::(qAs rl++(N++FF g s' f' L))) w':=by
 refine(feed_st (hs.perm (FF_front N)) ok hi x hn hx hnl h1 h2 h3 hr).mono ?_;rintro e' w' ⟨RB,rc,h4,rq,rl,f',h5,h6,h7,h8,h9⟩;exact⟨RB,rc,rq,rl,f',h4,Lib.hid ⟨h5,h6⟩,h7,h9.perm (List.Perm.cons _ (List.Perm.append_left _ (FF_front N).symm))⟩
theorem output_m(N:List At){g:Nat}{s:Ss}{f:Pf}(hs:St w0 X (N++FF g s f L) w)(ok:OkP s f.k) :
  Calls Tryz.prog 39 #[.pointer (some ⟨g,0,none⟩)] w fun e' w'=>∃ B r c f',e'=.returned (.slice B s.out.length c)/\OkP { s with out:=[] } f'.k/\St w0 X (.own 1 r B s.out.length c (s.out.map v8)::(N++FF g { s with out:=[] } f' L)) w':=by
 have hs2:=hs.perm (FF_front N)
 obtain⟨L1,hL1⟩:∃ L1,L1=N++L:=⟨_,rfl⟩
 rw[<-hL1] at hs2
 have S14:=Lib.hid (show(scl s f.k.h)[14]? = some (.slice f.k.h.OB s.out.length f.k.h.oc) from rfl)
 have EL:=Lib.hid (show(scl s f.k.h).length=18 from rfl)
 have ES:=Lib.hid (show(scl s f.k.h).set 14 (.slice none 0 0)=scl { s with out:=[] } { f.k.h with OB:=none,oc:=0 } from rfl)
 have CNo:Hid (∀ w,St w0 X (FF g s f L1) w->Calls Tryz.prog 87 #[.pointer (some ⟨g,0,none⟩)] w fun e w'=>e=.returned (.bool false)/\St w0 X (FF g s f L1) w'):=Lib.hid (fun w hs=>by
  refine(none_st (St.swapA [_,_] [_] hs)).mono ?_;rintro e w' ⟨h1,h2⟩;exact⟨h1,St.swapA [_] [_,_] h2⟩)
 have HOK:=Lib.hid ok
 have HL1:=Lib.hid hL1
 clear hs hL1 ok
 have hs:=hs2
 clear hs2
 go_enter Tryz.func39,Tryz.ntmps39
 go_upto_region 3 with (first|(go_at_call 87;refine Calls.mono (CNo.out _ hs) ?_;clear hs;rintro e w ⟨rfl,hs⟩))
 simp only[FF,SF] at hs
 go_wp2_with (first|((with_reducible refine Se.iL 9 ?_);(refine Se.Ld hs rfl rfl (Cell.blk 2 rfl S14.out) ?_))|((with_reducible refine Se.iN ?_);(refine Se.Soq 2 hs rfl rfl rfl (by rw[EL.out];omega) (ES.out) ?_;clear hs;intro w hs;try simp only[pS] at hs)))
 go_ret;refine⟨f.k.h.OB,f.k.ro,f.k.h.oc,⟨⟨{ f.k.h with OB:=none,oc:=0 },none,f.k.rq,f.k.tl,f.k.rl⟩,f.rB,f.rc,f.rr⟩,rfl,⟨HOK.out.tx,HOK.out.rd,HOK.out.en,HOK.out.re⟩,?_⟩
 have h1:=(hs.perm (List.perm_append_comm_assoc [_,_,_] [_] _)).nil_own 1 none
 have h2:=h1.perm (List.Perm.swap _ _ _)
 rw[HL1.out] at h2
 have h3:=h2.perm (List.Perm.cons _ (List.perm_append_comm_assoc [_] [_,_,_] _))
 exact h3.perm (List.Perm.cons _ (FF_front N (s:={ s with out:=[] }) (f:=⟨⟨{ f.k.h with OB:=none,oc:=0 },none,f.k.rq,f.k.tl,f.k.rl⟩,f.rB,f.rc,f.rr⟩)).symm)
theorem state_m(N:List At){g:Nat}{s:Ss}{f:Pf}(hs:St w0 X (N++FF g s f L) w) :
  Calls Tryz.prog 38 #[.pointer (some ⟨g,0,none⟩)] w fun e' w'=>e'=.returned (.tuple #[iv s.st,iv s.re])/\St w0 X (N++FF g s f L) w':=by
 have hs2:=St.swapA N [pR f.k.h.gr s.r f.rB f.rc,pO f.rr f.rB f.rc s.r,qS g s f.k.h] hs
 have hs3:=St.swapA [pR f.k.h.gr s.r f.rB f.rc,pO f.rr f.rB f.rc s.r] [qS g s f.k.h] hs2
 have K:Hid (∀ w',St w0 X ([qS g s f.k.h]++([pR f.k.h.gr s.r f.rB f.rc,pO f.rr f.rB f.rc s.r]++(N++(qU f.k.ro s f.k.h::mp f.k.h.gt .u16 (tPs f.k.tl)::mp f.k.h.gp .u16 (rPs s.rp)::.own 67 f.k.rq f.k.h.RB s.rd.length f.k.h.rc (rqs f.k.rl)::(tAs f.k.tl++(qAs f.k.rl++L)))))) w'->St w0 X (N++FF g s f L) w'):=Lib.hid (fun w' h=>St.swapA [_,_,_] N (St.swapA [_] [_,_] h))
 obtain⟨st,hst⟩:∃ q,q=s.st:=⟨_,rfl⟩
 obtain⟨re,hre⟩:∃ q,q=s.re:=⟨_,rfl⟩
 have S8:=Lib.hid (show(scl s f.k.h)[8]? = some (iv st) by rw[hst];rfl)
 have S9:=Lib.hid (show(scl s f.k.h)[9]? = some (iv re) by rw[hre];rfl)
 obtain⟨L1,hL1⟩:∃ L1,L1=[pR f.k.h.gr s.r f.rB f.rc,pO f.rr f.rB f.rc s.r]++(N++(qU f.k.ro s f.k.h::mp f.k.h.gt .u16 (tPs f.k.tl)::mp f.k.h.gp .u16 (rPs s.rp)::.own 67 f.k.rq f.k.h.RB s.rd.length f.k.h.rc (rqs f.k.rl)::(tAs f.k.tl++(qAs f.k.rl++L)))):=⟨_,rfl⟩
 have hs4:St w0 X (qS g s f.k.h::L1) w:=by rw[hL1];exact hs3
 rw[<-hL1] at K;rw[<-hst,<-hre];clear hs hs2 hs3 hst hre hL1
 have hs:=hs4
 clear hs4
 go_enter Tryz.func38,Tryz.ntmps38
 go_upto_region 3 with (first|(go_at_call 87;refine Calls.mono (none_st hs) ?_;clear hs;rintro e w ⟨rfl,hs⟩))
 refine Ch.region' 10 (fun wx=>Blk wx g (scl s f.k.h) 112) (fun |_=>false) (by kernel_rfl) (by decide +kernel) (hs.drew.hold (qS g s f.k.h) (by simp)) ?_;replace hs:=hs.drew;generalize w.drew=w at hs ⊢;change Ch.CW _ _ _ _ _ [0,1,2,3,4,5,6,7,8,9] _ _
 iterate 10 ((first|refine Ch.pA ?_|refine Ch.pE (hv:=fun wx hS=>Se.xL (hc:=((hS.cell _).trans S8.out))) (h:=?_)|refine Ch.pE (hv:=fun wx hS=>Se.xL (hc:=((hS.cell _).trans S9.out))) (h:=?_));(try simp only[pU]))
 refine Ch.done ?_
 try simp only[List.drop_succ_cons,List.drop_zero]
 go_wp2_with fail
 go_ret2;exact⟨rfl,K.out _ hs⟩
end Sn
end Go.Proofs.YtjnllcnknjlmmaaGreat
