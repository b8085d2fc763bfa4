/- Layer 41. -/
import Derived.Test.YtjnllcnknjlmmaaGreatKb07
set_option linter.unusedSimpArgs false
set_option linter.unusedVariables false
set_option maxRecDepth 100000
set_option maxHeartbeats 4000000
namespace Go.Proofs.YtjnllcnknjlmmaaGreat
open Go Go.RowKit
namespace Sn
open Pd (PDU enc valid)
def rdP(id:BitVec 16)(n:Nat):PDU:={ h:={ k:=4#8 },en:=entE 2#8 id n 90#8 }
theorem rd_valid(id:BitVec 16)(n:Nat):valid (rdP id n)=true:=v_cmd (entK_len _ _ _ _ 4) (Nat.zero_le _)
theorem cmd_read{s:Ss}(ht:s.tx=[])(hr:s.rp=[])(ho:1<=s.c.os)(id:BitVec 16){n:Nat}(hn:n<=1048576):commandE s (rdP id n)={ s with rp:=[(id,n)],rd:=s.rd++[⟨id,entE 2#8 id n 90#8,[],n⟩] }:=by
 obtain⟨h1,h2⟩:=ent_desc2 s.c id hn
 unfold commandE;rw[show(rdP id n).en=entE 2#8 id n 90#8 from rfl,show(rdP id n).da=[] from rfl,ht,hr,getA_nil,getA_nil,ent_id,ent_len _ _ _ _ (by omega)];rw[if_neg (by simp),if_neg (by simp only[List.length_nil];omega),show([]:Bs).length=0 from rfl,h1,if_neg (by simp),h2,if_neg (by simp),if_pos rfl];unfold requestE;rw[hr,ht]
 rfl
theorem lv_read{c:Cf}{al dg:BitVec 8}{s:Ss}(h:Lv c al dg s)(hc:c.ok)(ht:s.tx=[])(hr:s.rp=[])(id:BitVec 16){n:Nat}(hn:n<=1048576) :
  ∃ t,feedE s (enc (rdP id n) (owE c dg))=(t,[⟨id,entE 2#8 id n 90#8,[],n⟩],0)/\Lv c al dg t/\t.tx=[]/\t.rp=[(id,n)]/\t.out=s.out/\t.r.nb<=s.r.nb+2097152/\t.r.np=s.r.np+1:=by
 have hle:=enc_le (framed_fm (d:=digE c dg) hc.al) (rd_valid id n)
 have hH:handleE { s with r:=eatR s.r (enc (rdP id n) (owE c dg)).length,rd:=[] } (rdP id n)={ s with r:=eatR s.r (enc (rdP id n) (owE c dg)).length,rp:=[(id,n)],rd:=[⟨id,entE 2#8 id n 90#8,[],n⟩] }:=by
  unfold handleE;rw[if_neg (fun hh=>absurd (show s.st=1 from hh.1) (by rw[h.st];decide)),if_pos ⟨h.st,rfl⟩,cmd_read (s:={ s with r:=eatR s.r (enc (rdP id n) (owE c dg)).length,rd:=[] }) ht hr (by show 1<=s.c.os;rw[h.c];exact hc.o1) id hn]
  rfl
 refine⟨_,lv_feed h hc.al (rd_valid id n) hH rfl,⟨h.c,h.st,h.re,h.f,h.rf,h.re0,rfl,h.rm⟩,ht,rfl,rfl,?_,rfl⟩;exact Nat.add_le_add_left hle _
end Sn
end Go.Proofs.YtjnllcnknjlmmaaGreat
namespace Go.Proofs.YtjnllcnknjlmmaaGreat
open Go Go.RowKit
namespace Sn
open Pd (iv)
open Se (St At Reads)
open Su (u16)
open Li (v8)
open Bv (n16)
variable {w0 w:World} {X:List Nat} {L:List At}
attribute [local irreducible] Calls
theorem reply_d{N:List At}{g:Nat}{s:Ss}{f:Pf}(hs:St w0 X (N++FF g s f L) w)(ok:OkP s f.k)(hi:Inv s)(id:BitVec 16)(en da:Bs)(he:en.length=16){A:Option Addr}{n c:Nat}(hn:n=da.length)(hx:Reads (N++L) A (da.map v8))(hA:0<n->∃ g o,A=some ⟨g,o,none⟩)(hnc:n<=c)(hl:n<=20000)(hb:s.out.length<=4398046511104){s':Ss}{e:Nat}(hr:replyE s id en da=(s',e)) :
  Calls Tryz.prog 46 #[.pointer (some ⟨g,0,none⟩),.int .u16 (n16 id),.agg (en.map v8).toArray,.slice A n c] w fun e' w'=>∃ f',e'=.returned (iv e)/\Hid (OkP s' f'.k)/\St w0 X (N++FF g s' f' L) w':=by
 have h1:=hi.c.m1
 have h2:=hi.c.md
 obtain⟨gd,od,hA2⟩:∃ gd od,0<n->A=some ⟨gd,od,none⟩:=by
  by_cases h0:0<n
  ·obtain⟨g,o,h⟩:=hA h0
   exact⟨g,o,fun _=>h⟩
  ·exact⟨0,0,fun h=>absurd h h0⟩
 refine(reply_m N hs ok id en da he (gd:=gd) (od:=od) hn hx hnc hA2 (by omega) h2 (by omega) hr).mono ?_;rintro e' w' ⟨f',h3,h4,h5⟩;exact⟨f',h3,Lib.hid h4,h5⟩
end Sn
end Go.Proofs.YtjnllcnknjlmmaaGreat
namespace Go.Proofs.YtjnllcnknjlmmaaGreat
open Go Go.RowKit
namespace Sn
open Se (St At Reads)
variable {w0 w:World} {X:List Nat} {L:List At}
attribute [local irreducible] Calls
theorem is_z{N:List At}{g:Nat}{s:Ss}{f:Pf}(hs:St w0 X (N++FF g s f L) w)(ok:OkP s f.k)(ht:s.tx=[])(hr:s.rp=[]){x y:Int}(hx:(s.st:Int)=x)(hy:(s.re:Int)=y) :
  Calls Tryz.prog 41 #[.pointer (some ⟨g,0,none⟩),.int .i64 x,.int .i64 y,.slice none 0 0] w fun e' w'=>e'=.returned (.bool true)/\St w0 X (N++FF g s f L) w' :=
 is_m N hs ok (by rw[ht,hr];decide) (outZ_nil ht hr) x y [] (gb:=0) (ob:=0) rfl Reads.nil (fun h=>absurd h (Nat.lt_irrefl _)) (isB_true hx hy rfl)
end Sn
end Go.Proofs.YtjnllcnknjlmmaaGreat
