/- Part: R3. -/
import Derived.Test.YtjpbmbgincdjaaaGreatDoorK04
set_option linter.all false
set_option maxRecDepth 100000
set_option maxHeartbeats 0
namespace Go.Proofs.YtjpbmbgincdjaaaGreatDoor
open Go.RowKit List World Tryz
theorem Eu {w:World} {base:Nat} {v:Value} {n:Nat} {l:List UInt8} (src dst:TypeId) (hs:prog.underlying src=some (.slice 5)) (hd:prog.underlying dst=some .string)
  (h:w.ownsRow base 5 1 v n (U8 l)):∃A cap,v=.slice A n cap/\(convert src dst (.slice A n cap)).run prog w=.ok (.string ⟨l.toArray⟩) w:=by
 obtain⟨A,cap,rfl,h1,h2,h3,h4⟩:=dK h;rw[wW,Nat.mul_one] at h4;refine⟨A,cap,rfl,?_⟩;rcases h3 with h3|⟨b,off,rfl,hb,hc⟩
 ·have hl:l=[]:=by
   have:=congrArg List.length h3;rw[wW] at this;exact eq_nil_of_length_eq_zero this
  subst hl;rw[show n=0 from h4.symm];rw[run_convert_bytes_string w src dst 5 A 0 cap hs underlying5 hd];cases A<;>(simp[Conv.bytesToString];rfl)
 ·rw[<-h4]
  exact run_convert_bytes_back w src dst 5 ⟨b,off,none⟩ cap l hs underlying5 hd (fun j hj=>by
   rw[show Addr.add ⟨b,off,none⟩ j=⟨b,off+j,none⟩ from by unfold Addr.add;split<;>simp_all,hc j (by rw[wW];exact hj)];simp[U8])
theorem pV (A:Option Addr) (len cap:Nat) (xs:List Nat) (w:World) (hlen:xs.length=len) (hl:len<=cap) (hm:len<=1073741824) (hr:Rd w A (I xs)) (hd:∀x∈xs,x<2 ^ 24):
  Calls prog 105 #[.slice A len cap] w fun e w'=>e=.returned (.string (aC (val (2 ^ 24) xs)))/\Below w.heap.size w w':=by
 have HR:=zH hr;have HL:=zH hlen;have HD:=zH hd;clear hr hlen hd;obtain⟨B,hB⟩:=zE w.heap.size;have HB:=zH hB;have hBw:B<=w.heap.size:=by omega
 clear hB;go_enter func105,ntmps105;go_wp2
 go_loopw [4,3] (fun kv ov wr=>∃k:Nat,k<=len/\kv=.int .i64 ((k:Int)-1)/\Hid (wr.ownsRow B 5 1 ov (3*(len-k)) (U8 (be (3*(len-k)) (val (2 ^ 24) (xs.drop k)))))/\Below B w wr/\B<=wr.heap.size) (fun k _ _=>(intOf k+1).toNat)
 case atStart=>
  refine⟨len,by omega,by go_num,?_,Below.refl _ _,hBw⟩;rw[Nat.sub_self];exact ownsRow_nil _ _ _ _
 case round=>
  obtain⟨k,hk,rfl,hown,hbw,hBs⟩:=hrel;by_cases hk0:0<k
  ·obtain⟨k,rfl⟩:∃j,k=j+1:=⟨k-1,by omega⟩
   have hr1:Rd wr A (I xs):=HR.keep (by have:=hbw.size;omega) (fun p hp=>hbw.cell (by rw[HB.out];exact hp));obtain⟨b,off,rfl,hbb,hcell⟩:=hr1.i (k:=k) (by rw[HL.out];omega)
   have hbB:b<B:=by
    rcases HR.at_ (k:=k) (by rw[jo,HL.out];omega) with⟨b',off',e,hb',_⟩
    injection e with e;injection e with e1 e2;rw[HB.out,e1];exact hb'
   have x0:xs.getD k 0<16777216:=aP (by omega) HD k
   have HS:Hid (be (3*(len-k)) (val (2 ^ 24) (xs.drop k))=be (3*(len-(k+1))) (val (2 ^ 24) (xs.drop (k+1)))++[UInt8.ofNat (xs.getD k 0 / 65536 % 256),UInt8.ofNat (xs.getD k 0 / 256 % 256),UInt8.ofNat (xs.getD k 0 % 256)]):=by
    have h1:=ZW (len-(k+1)) (xs.getD k 0) (val (2 ^ 24) (xs.drop (k+1))) x0;rw[<-h1,show 3*(len-(k+1))+3=3*(len-k) from by omega,drop_eq_getElem_cons (by rw[HL.out];omega),val,getD_lt (by rw[HL.out];omega)];rfl
   obtain⟨x,hx⟩:=zF (xs.getD k 0);rw[hx] at hcell x0 HS;clear hx hr1;have q1:(0:Int)<=(k:Int):=by omega
   have q2:(k:Int)<(len:Int):=by omega
   go_wp2_with fail
   go_region_held3 (fun w'=>w'.cell? ⟨b,off+k,none⟩=some (.int .i64 (x:Int)))
    (first|go_keep|exact (hb1.cell (by exact hbB)).trans hcell)
    ((refine WQ wr.drew #[.int .u8 ((x:Int) / 65536 % 256),.int .u8 ((x:Int) / 256 % 256),.int .u8 ((x:Int) % 256)] (by rfl) _ _ 41 (by rfl) B 5 (.int .u8 0) 1 1 3 underlying41 IC rfl (by decide) u3 (3*(len-(k+1))) _ (by rfl) hown (by rfl) (by rfl) (by simp[Value.oneCell']) (by unfold maxLen;omega) (by omega) hBs ?_;intro v1 w1 hown1 hb1))
   clear q1 q2;have HOWN:=zH hown1;have akq:=hbw.trans (⟨hb1.os,hb1.tape,hb1.output,hb1.size,hb1.block⟩:Below B wr w1);have akr:B<=w1.heap.size:=Nat.le_trans hBs hb1.size;clear hown1 hb1;go_wp2
   go_roundw
   case rel=>
    refine⟨k,by omega,by first|rfl|go_num,?_,akq,akr⟩;show World.ownsRow _ _ _ _ _ _ _;rw[HS.out,show 3*(len-k)=3*(len-(k+1))+3 from by omega];have:=HOWN.out;simpa [U8] using this
   case measure=>simp[intOf]<;>omega
  ·obtain rfl:k=0:=by omega
   have hown2:=hown.out;rw[Nat.sub_zero,drop_zero] at hown2;obtain⟨A',cap',rfl,hconv⟩:=Eu 41 55 underlying41 underlying55 hown2;clear hown2 hown;go_wp2_with fail
   have hv:val (2 ^ 24) xs<256 ^ (3*len):=by
    have:=iE (2 ^ 24) xs HD.out;rwa[HL.out,Ls] at this
   refine (fO _ _ ?_).mono ?_
   ·show (be (3*len) (val (2 ^ 24) xs)).length<=_;rw[qF];omega
   rintro e w' ⟨rfl,rfl⟩;go_wp2;go_ret;refine⟨?_,by rw[<-HB.out];exact hbw⟩
   have:ak ⟨(be (3*len) (val (2 ^ 24) xs)).toArray⟩=val (2 ^ 24) xs:=by
    show vb (be (3*len) (val (2 ^ 24) xs))=_;rw[Ue,Nat.mod_eq_of_lt hv]
   rw[this];rfl
end Go.Proofs.YtjpbmbgincdjaaaGreatDoor
